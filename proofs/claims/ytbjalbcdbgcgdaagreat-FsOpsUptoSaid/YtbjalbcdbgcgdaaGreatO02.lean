/- FsOps, packed. -/
import Derived.Test.YtbjalbcdbgcgdaaGreatOQ
import Derived.Test.YtbjalbcdbgcgdaaGreatO00
open Go.Proofs.Tryz renaming prog->lk
open List renaming Perm.refl->ja,count_pos_iff->nf,count_set->n7,getD_eq_getElem?_getD->my,getElem?_eq_getElem->ak,getElem?_eq_some_iff->aj,getElem?_map->dp,getElem?_set->ic,getElem_mem->na,length_append->ae,length_map->gp,length_set->n5,mem_iff_getElem?->l9,mem_of_getElem?->jg,range->mn,take_length->mz
open Nat renaming add_mul->ff,add_sub_cancel->nb,ble_eq_true_of_le->jd,le_refl->df,lt_or_ge->ig,mod_lt->jf,mul_le_mul->n6,mul_one->gy,pow_le_pow_right->mr,pow_succ->n8,zero_le->fe
open Int renaming le_of_eq->n9,le_refl->jy,mul_assoc->ml,mul_comm->nd,mul_le_mul_of_nonneg_right->mu
open Option renaming some.inj->a7
open Prod renaming mk.injEq->de
open Decidable renaming not_not->aab
open Array renaming replicate->fh
open Bool renaming eq_false_iff->nh,false_eq_true->fm
open Go.Result renaming andThen->mw,andThen_ok->aa
open Go.Sem renaming run_bind->ab,run_pure->ah
open Go.Value renaming cells->aaa,iface->ni,int->gh
open Go.IntKind renaming bits->jm,i64->kx,u8->kz
open Go.World renaming rowIs_alloc->ng
open Go.Lit renaming int->kg
set_option linter.unusedVariables false
set_option maxRecDepth 100000
set_option maxHeartbeats 8000000
namespace Go.Proofs.YtbjalbcdbgcgdaaGreat
namespace lens
open Go.RowKit bO
def cnt:List Int→Nat→Nat
 |[],_=>0
 |x::l,j=>(if x=(j:Int) then 1 else 0)+cnt l j
theorem vV (a b:List Int) (j:Nat):cnt (a++b) j=cnt a j+cnt b j:=by
 induction a with
 |nil=>simp [cnt]
 |cons x a ih=>rw[List.cons_append,cnt,cnt,ih,Nat.add_assoc]
theorem pJ {l:List Int} {k:Nat} {x:Int} (hp:l[k]? =some x) (j:Nat):cnt (l.take (k+1)) j=cnt (l.take k) j+(if x=(j:Int) then 1 else 0):=by
 rw[take_one hp,vV];rfl
theorem rP (l:List Int) (j:Nat):cnt l j≤l.length:=by
 induction l with
 |nil=>simp [cnt]
 |cons x l ih=>rw[cnt,List.length_cons];split<;>omega
def KI (l:List Int):Nat→Nat
 |0=>0
 |1=>0
 |w+2=>(KI l (w+1)+cnt l (w+1))*2
theorem SK (l:List Int) (w:Nat) (h:1≤w):KI l (w+1)=(KI l w+cnt l w)*2:=by
 obtain⟨v,rfl⟩: ∃ v,w=v+1:=⟨w-1,Z8⟩;rfl
theorem aQU (l:List Int) (h:l.length≤320): ∀ w,KI l w+640≤640*2^w:=by
 intro w;induction w with
 |zero=>simp [KI]
 |succ w ih=>
  cases w with
  |zero=>simp [KI]
  |succ w=>
   rw[SK _ _ Z8,n8];have:=rP l (w+1);omega
theorem adC (l:List Int) (h:l.length≤320) (w:Nat) (hw:w≤16):KI l w≤41943040:=by
 have h1:=aQU l h w;have h2:2^w≤2^16:=mr Z9 hw;have h3:(2:Nat)^16=65536:=Z9
 omega
def iG (l:List Int) (i:Nat):Nat:=
 match l[i]? with
 |some x=>if 0<x then KI l x.toNat+cnt (l.take i) x.toNat else 0
 |none=>0
def iv (n:Nat):Value:= .int .i64 (n:Int)
def avL (xs:List Int) (W:World) (e:Ending) (w':World):Prop:=
  (dD xs ≠ 0 ∧ e = .returned (.tuple #[.slice none 0 0, .int .i64 (dD xs : Int)]) ∨
   dD xs = 0 ∧ ∃ G, e = .returned (.tuple #[.slice (some ⟨G, 0, none⟩) xs.length xs.length, .int .i64 0]) ∧ W.heap.size ≤ G ∧ w'.rowIs G 3 xs.length (fun i => iv (iG xs i))) ∧ Below W.heap.size W w'
def nx (l:List Int) (i j:Nat):Nat:=KI l j+(if j=0 then 0 else cnt (l.take i) j)
theorem aKY (l:List Int) (j:Nat):nx l 0 j=KI l j:=by unfold nx;simp [cnt]
theorem arA {l:List Int} {i m:Nat} (hp:l[i]? =some (m:Int)) (j:Nat):nx l (i+1) j=nx l i j+(if j=m∧0<m then 1 else 0):=by
 unfold nx;rw[pJ hp j];by_cases h0:j=0
 ·subst h0;rw[Jg rfl,Jg rfl,Jf Z8]
 ·rw[Jf h0,Jf h0];by_cases h:j=m
  ·subst h;rw[Jg rfl,Jg ⟨rfl,Z8⟩];omega
  ·rw[Jf Z8,Jf (fun h2=>h h2.1)];omega
theorem FY {l:List Int} {i m:Nat} (hp:l[i]? =some (m:Int)) (hm:0<m):iG l i=nx l i m:=by
 unfold iG nx;rw[hp];simp only;rw[Jg Z8,Jf Z8];rfl
theorem aaM {l:List Int} {i:Nat} (hp:l[i]? =some ((0:Nat):Int)):iG l i=0:=by
 unfold iG;rw[hp];rfl
theorem aPI (l:List Int) (h:l.length≤320) (i j:Nat) (hj:j≤16):nx l i j≤41943360:=by
 unfold nx;have h1:=adC l h j hj;have h2:=rP (l.take i) j;simp at h2;split<;>omega
theorem aUE:(lk.info? 428).map (·.zero)=some (some (.agg (fh 17 (.int .i64 0)))):=Jd
theorem aUF:(lk.info? 3).map (fun i=>(i.zero,i.size,i.bytes))=some (some (.int .i64 0),1,8):=Jd
theorem avM (v:Value) (xs:List Int) (W:World) (hs:bX W 1 v (xs.map pF)) (hg: ∀ x∈xs,(kg .i64 x).wf=true) (hn:xs.length≤1000000000000000):
  Calls lk 313 #[v] W (avL xs W):=by
 have hfill:=fun w=>SD v xs w
 obtain⟨q,cap,b,off,rfl,hq,hc⟩:=hs.view;simp only[gp] at hq hfill hs ⊢;have HQ:=Lib.hid hq;have HC:Hid (∀ k x,xs[k]? =some x→W.cell? ⟨b,off+k,none⟩=some (.int .i64 x)):=fun k p hx=>by
  have:=hc k _ ZL 0 _ rfl;simpa [gy] using this
 clear hq hc;by_cases hE:eM xs=0
 ·by_cases hO:32768<jR xs
  ·have hF:uK xs=jR xs:=by rw[uK,Jg hE]
   have hCE:dD xs=6:=by rw[dD,Jf Zt,Jg hO]
   have hOI:(32768:Int)<(jR xs:Int):=Z8
   go_enter Tryz.func313,Tryz.ntmps313
   go_wp2_with (fail)
   refine (hfill _ hs hg hn).mono ?_;rintro e w' ⟨rfl,rfl⟩;rw[hE,hF];clear hE hF
   go_wp2_with (fail)
   go_ret2
   exact⟨.inl ⟨by rw[hCE];decide,by rw[hCE];rfl⟩,Below.refl _ _⟩
  ·have hF:uK xs=jR xs:=by rw[uK,Jg hE]
   have hCE:dD xs=0:=by rw[dD,Jf Zt,Jf hO]
   have hOI: ¬ (32768:Int)<(jR xs:Int):=Z8
   have hn3:xs.length≤320:=by
    unfold eM at hE;split at hE
    ·cases hE
    ·omega
   have hbad:jB xs=false:=by
    unfold eM at hE;rw[Jf Z8] at hE;cases h:jB xs
    ·rfl
    ·rw[h] at hE;simp at hE
   have HCE:=Lib.hid hCE;have HB:=Lib.hid hbad;clear hCE hbad hn
   go_enter Tryz.func313,Tryz.ntmps313
   go_wp2_with (fail)
   refine (hfill _ hs hg Z8).mono ?_;rintro e w' ⟨rfl,rfl⟩;rw[hE,hF];clear hE hF hfill
   go_wp2_with (with_reducible refine bO.vD rfl 428 rfl (.agg (fh 17 (.int .i64 0))) aUE ?_)
   have hr7:((W.alloc (Obj.cells (fh 17 (gh .i64 0)) 428)).alloc (Obj.cells (fh 17 (gh .i64 0)) 428)).rowIs (W.heap.size+1) 428 17 (fun _=>gh .i64 0):=by
    have:=ng (W.alloc (Obj.cells (fh 17 (gh .i64 0)) 428)) (fh 17 (gh .i64 0)) 428 (fun _=>gh .i64 0) (fun i hi=>by simp at hi;simp [hi]);simpa using this
   have hr6:((W.alloc (Obj.cells (fh 17 (gh .i64 0)) 428)).alloc (Obj.cells (fh 17 (gh .i64 0)) 428)).rowIs W.heap.size 428 17 (fun j=>iv (cnt (xs.take 0) j)):=by
    have:=ng W (fh 17 (gh .i64 0)) 428 (fun _=>gh .i64 0) (fun i hi=>by simp at hi;simp [hi]);have h2:(W.alloc (Obj.cells (fh 17 (gh .i64 0)) 428)).rowIs W.heap.size 428 17 (fun _=>gh .i64 0):=by simpa using this
    exact (h2.congr (fun i hi=>rfl)).alloc _
   have hb:Below W.heap.size W ((W.alloc (Obj.cells (fh 17 (gh .i64 0)) 428)).alloc (Obj.cells (fh 17 (gh .i64 0)) 428)):=((Below.refl _ _).alloc (df _) _).alloc Ja _;generalize (W.alloc (Obj.cells (fh 17 (gh .i64 0)) 428)).alloc (Obj.cells (fh 17 (gh .i64 0)) 428)=wx at hr6 hr7 hb ⊢;obtain⟨G,hG⟩: ∃ G,W.heap.size=G:=⟨_,rfl⟩;rw[hG] at hr6 hr7 ⊢;have hGl:W.heap.size≤G:=Z8
   have HG:=Lib.hid hG;clear hG
   go_loopw [26] (fun y wr=> ∃ k:Nat,k≤xs.length∧y= .int .i64 k∧wr.rowIs G 428 17 (fun j=>iv (cnt (xs.take k) j))∧wr.rowIs (G+1) 428 17 (fun _=> .int .i64 0)∧Below W.heap.size W wr) (fun y _=>xs.length-(intOf y).toNat)
   case atStart=>exact⟨0,fe _,rfl,hr6,hr7,hb⟩
   case round=>
    clear hr6 hr7 hb;obtain⟨k,hk,rfl,hr6,hr7,hb⟩:=hrel;by_cases hlt:k<xs.length
    ·obtain⟨rfl,hblk⟩:=HQ.out k hlt;obtain⟨x,hp⟩: ∃ p,xs[k]? =some p:=⟨_,ak hlt⟩;have hx:=uJ HB.out (jg hp);obtain⟨m,rfl⟩: ∃ m:Nat,x=(m:Int):=⟨x.toNat,Z8⟩;have hm15:m≤15:=Z8
     have hmI:(m:Int)≤15:=Z8
     have hc0:wr.cell? ⟨b,off+k,none⟩=some (.int .i64 (m:Int)):=(hb.cell (p:=⟨b,off+k,none⟩) hblk).trans (HC.out k _ hp);have hltI:(k:Int)<(xs.length:Int):=Z8
     obtain⟨cm,hcm⟩: ∃ cm,cm=cnt (xs.take k) m:=⟨_,rfl⟩;have hc1:wr.cell? ⟨G,m,none⟩=some (.int .i64 (cm:Int)):=by rw[hr6.cell Z8,hcm];rfl
     have f1:=hr6.frozen m;have hcm3:cm≤320:=by rw[hcm];have:=rP (xs.take k) m;simp at this;omega
     have hr6' := (hr6.set m (.int .i64 ((cm : Int) + 1))).congr (g := fun j => iv (cnt (xs.take (k + 1)) j)) (fun j hj => by
      rw[pJ hp j];by_cases h:j=m
      ·subst h;rw[Jg rfl,Jg rfl,hcm];rfl
      ·rw [Jf h, Jf Z8]; rfl)
     have hr7':=hr7.setOther (a:=⟨G,m,none⟩) Ja (.int .i64 ((cm:Int)+1));have hb':=hb.setCell (p:=⟨G,m,none⟩) hGl (.int .i64 ((cm:Int)+1));have HP:=Lib.hid hp;clear hp hcm hr6 hr7 hx
     go_wp2_with (fail)
     exact⟨⟨k+1,Z8,rfl,hr6',hr7',hb'⟩,by show xs.length-(((k:Int)+1).toNat)<xs.length-((k:Int).toNat);omega⟩
    ·have hke:k=xs.length:=Z8
     subst hke;rw[mz] at hr6;have f0:=hr6.frozen 0;obtain⟨c0,hc0⟩: ∃ c0,c0=cnt xs 0:=⟨_,rfl⟩;have hc1:wr.cell? ⟨G,0,none⟩=some (.int .i64 (c0:Int)):=by rw[hr6.cell Z8,hc0];rfl
     have hr6':=hr6.set 0 (.int .i64 0);have hr7':=hr7.setOther (a:=⟨G,0,none⟩) Ja (.int .i64 0);have hb':=hb.setCell (p:=⟨G,0,none⟩) hGl (.int .i64 0);clear hr6 hr7 hb hc0
     go_wp2_with (fail)
     generalize wr.setCell ⟨G,0,none⟩ (.int .i64 0)=w1 at hr6' hr7' hb' ⊢;clear hc1 f0
     go_loopw [10] (fun y wr=> ∃ w:Nat,1≤w∧w≤16∧y= .int .i64 w∧wr.rowIs G 428 17 (fun j=>if j=0 then gh .i64 0 else iv (cnt xs j))∧wr.rowIs (G+1) 428 17 (fun j=>if j≤w then iv (KI xs j) else .int .i64 0)∧Below W.heap.size W wr) (fun y _=>16-(intOf y).toNat)
     case atStart=>
      refine⟨1,Z8,Z8,rfl,hr6',hr7'.congr (fun j hj=> ?_),hb'⟩;by_cases h:j≤1
      ·rw[Jg h]
       match j,h with
       |0,_=>rfl
       |1,_=>rfl
      ·rw[Jf h]
     case round=>
      clear hr6' hr7' hb';obtain⟨w,hw1,hw16,rfl,hr6,hr7,hb⟩:=hrel;by_cases hw:w≤15
      ·have hwI:(w:Int)≤15:=Z8
       obtain⟨c,hc⟩: ∃ c,c=cnt xs w:=⟨_,rfl⟩;obtain⟨n,hn⟩: ∃ n,n=KI xs w:=⟨_,rfl⟩;have c1:wr.cell? ⟨G,w,none⟩=some (.int .i64 (c:Int)):=by rw[hr6.cell Z8,Jf Z8,hc];rfl
       have c2:wr.cell? ⟨G+1,w,none⟩=some (.int .i64 (n:Int)):=by rw[hr7.cell Z8,Jg (df _),hn];rfl
       have c3:wr.cell? ⟨G+1,w+1,none⟩=some (.int .i64 0):=by rw[hr7.cell Z8,Jf Z8]
       have f3:=hr7.frozen (w+1);have hcl:c≤320:=by rw[hc];have:=rP xs w;omega
       have hnl:n≤41943040:=by rw[hn];exact adC xs hn3 w hw16
       have hr7' := (hr7.drew.set (w + 1) (.int .i64 (((n : Int) + (c : Int)) * 2))).congr (g := fun j => if j ≤ w + 1 then iv (KI xs j) else .int .i64 0) (fun j hj => by
        by_cases h:j=w+1
        ·subst h;rw[Jg rfl,Jg (df _),SK xs w hw1, ←hc, ←hn,iv];simp
        ·rw[Jf h];by_cases h2:j≤w
         ·rw[Jg h2,Jg Z8]
         ·rw [Jf h2, Jf Z8])
       have hr6':=hr6.drew.setOther (a:=⟨G+1,w+1,none⟩) Ja (.int .i64 (((n:Int)+(c:Int))*2));have hb':=hb.drew.setCell (p:=⟨G+1,w+1,none⟩) Zq (.int .i64 (((n:Int)+(c:Int))*2));clear hr6 hr7 hc hn
       go_wp2_with (fail)
       go_region
       go_wp2_with (fail)
       exact⟨⟨w+1,Z8,Z8,rfl,hr6',hr7',hb'⟩,by show 16-(((w:Int)+1).toNat)<16-((w:Int).toNat);omega⟩
      ·have hwe:w=16:=Z8
       subst hwe;have l6:=hr6.lt;have l7:=hr7.lt;have hmk:=fun w:World=>run_make_row' 23 3 (.int .i64 0) 8 Tryz.underlying23 aUF rfl .i64 .i64 xs.length Z8 Z8 w
       have hr7x:=hr7.congr (g:=fun j=>iv (nx xs 0 j)) (fun j hj=>by rw[Jg Z8,aKY]);have hsz:=hb.size;clear hr6 hr7
       go_wp2_with (fail)
       have hrow:=World.rowIs_made wr (.int .i64 0) xs.length 3;have hr7y:=hr7x.alloc (Obj.cells (madeCells #[gh .i64 0] xs.length) 3);have hb0:=hb.alloc hsz (Obj.cells (madeCells #[gh .i64 0] xs.length) 3);generalize wr.alloc (Obj.cells (madeCells #[gh .i64 0] xs.length) 3)=w2 at hrow hr7y hb0 ⊢;obtain⟨R,hR⟩: ∃ R,wr.heap.size=R:=⟨_,rfl⟩;rw[hR] at hrow l6 l7 hsz ⊢;clear hmk hr7x hb hR
       go_loopw [57] (fun y ws=> ∃ i:Nat,i≤xs.length∧y= .int .i64 i∧ws.rowIs (G+1) 428 17 (fun j=>iv (nx xs i j))∧ws.rowIs R 3 xs.length (fun j=>if j<i then iv (iG xs j) else .int .i64 0)∧Below W.heap.size W ws) (fun y _=>xs.length-(intOf y).toNat)
       case atStart=>exact⟨0,fe _,rfl,hr7y,hrow.congr (fun j hj=>by rw[Jf Z8]),hb0⟩
       case round=>
        clear hr7y hrow hb0;obtain⟨i,hi,rfl,hr7,hro,hb⟩:=hrel;by_cases hlt:i<xs.length
        ·obtain⟨rfl,hblk⟩:=HQ.out i hlt;obtain⟨x,hp⟩: ∃ p,xs[i]? =some p:=⟨_,ak hlt⟩;have hx:=uJ HB.out (jg hp);obtain⟨m,rfl⟩: ∃ m:Nat,x=(m:Int):=⟨x.toNat,Z8⟩;have hm15:m≤15:=Z8
         have hmI:(m:Int)≤15:=Z8
         have hc0:wr.cell? ⟨b,off+i,none⟩=some (.int .i64 (m:Int)):=(hb.cell (p:=⟨b,off+i,none⟩) hblk).trans (HC.out i _ hp);have hltI:(i:Int)<(xs.length:Int):=Z8
         by_cases hm0:0<m
         ·have hm0I:(0:Int)<(m:Int):=Z8
          obtain⟨c,hc⟩: ∃ c,c=nx xs i m:=⟨_,rfl⟩;have c1:wr.cell? ⟨G+1,m,none⟩=some (.int .i64 (c:Int)):=by rw[hr7.cell Z8,hc];rfl
          have c2:wr.cell? ⟨R,i,none⟩=some (.int .i64 0):=by rw[hro.cell hlt,Jf Z8]
          have c1':(wr.setCell ⟨R,i,none⟩ (.int .i64 (c:Int))).cell? ⟨G+1,m,none⟩=some (.int .i64 (c:Int)):=by
           rw[(hr7.setOther (a:=⟨R,i,none⟩) Zq _).cell Z8,hc];rfl
          have f1:=hro.frozen i;have f2:=(hr7.setOther (a:=⟨R,i,none⟩) Zq (.int .i64 (c:Int))).frozen m;have hcl:c≤41943360:=by rw[hc];exact aPI xs hn3 i m Z8
          have hro' := ((hro.set i (.int .i64 (c : Int))).congr (g := fun j => if j < i + 1 then iv (iG xs j) else .int .i64 0) (fun j hj => by
           by_cases h:j=i
           ·subst h;rw[Jg rfl,Jg Z8,FY hp hm0,hc];rfl
           ·rw[Jf h];by_cases h2:j<i
            ·rw[Jg h2,Jg Z8]
            ·rw [Jf h2, Jf Z8])).setOther (a := ⟨G + 1, m, none⟩) Zq (.int .i64 ((c : Int) + 1))
          have hr7' := ((hr7.setOther (a := ⟨R, i, none⟩) Zq (.int .i64 (c : Int))).set m (.int .i64 ((c : Int) + 1))).congr (g := fun j => iv (nx xs (i + 1) j)) (fun j hj => by
           rw[arA hp];by_cases h:j=m
           ·subst h;rw[Jg rfl,Jg ⟨rfl,hm0⟩, ←hc];rfl
           ·rw [Jf h, Jf (fun h2 => h h2.1)]; rfl)
          have hb':=(hb.setCell (p:=⟨R,i,none⟩) Zq (.int .i64 (c:Int))).setCell (p:=⟨G+1,m,none⟩) Zq (.int .i64 ((c:Int)+1));clear hr7 hro hp hc hx
          go_wp2_with (fail)
          exact⟨⟨i+1,Z8,rfl,hr7',hro',hb'⟩,by show xs.length-(((i:Int)+1).toNat)<xs.length-((i:Int).toNat);omega⟩
         ·have hm0':m=0:=Z8
          subst hm0';have hro' := hro.congr (g := fun j => if j < i + 1 then iv (iG xs j) else .int .i64 0) (fun j hj => by
           by_cases h:j=i
           ·subst h;rw[Jf Z8,Jg Z8,aaM hp];rfl
           ·by_cases h2:j<i
            ·rw[Jg h2,Jg Z8]
            ·rw [Jf h2, Jf Z8])
          have hr7':=hr7.congr (g:=fun j=>iv (nx xs (i+1) j)) (fun j hj=>by rw[arA hp,Jf Z8];rfl);clear hr7 hro hp hx
          go_wp2_with (fail)
          exact⟨⟨i+1,Z8,rfl,hr7',hro',hb⟩,by show xs.length-(((i:Int)+1).toNat)<xs.length-((i:Int).toNat);omega⟩
        ·have hie:i=xs.length:=Z8
         subst hie;have hro':=hro.congr (g:=fun j=>iv (iG xs j)) (fun j hj=>by rw[Jg hj]);clear hro hr7
         go_wp2_with (fail)
         go_ret2
         exact⟨.inr ⟨HCE.out,R,rfl,Z8,hro'⟩,hb⟩
 ·have hCE:dD xs=eM xs:=by rw[dD,Jg hE]
  have hEI:((eM xs:Int) !=0)=true:=by simp;omega
  go_enter Tryz.func313,Tryz.ntmps313
  go_wp2_with (fail)
  refine (hfill _ hs hg hn).mono ?_;rintro e w' ⟨rfl,rfl⟩
  go_wp2_with (fail)
  go_ret2
  exact⟨.inl ⟨by rw[hCE];exact hE,by rw[hCE];rfl⟩,Below.refl _ _⟩
end lens
namespace sl
open Go.RowKit bO lens
class Arr (P:Program) (t:TypeId) (len e:outParam Nat):Prop where
 h:P.underlying t=some (.array len e)
section
variable {P:Program} {n:Nat} {F:eE} {H R:List Ent} {o:Oper} {x y z:Operand} {v u z':Value} {T S:TypeId}
theorem xF {b i k m len e by':Nat} {j:Int} {kd:IntKind} {agg:Bool} [ht:Arr P T len e] [hs:Ty P e agg 1 by' z'] (ho:o.op= .indexAddr T x y) (hx:ev F x=some (aH b i)) (hy:ev F y=some (.int kd j)) (hj:j=(k:Int)) (hk:k<len) (hm:i+k=m):Qt P n o F H (aH b m):=fun a w ha _=>by
 subst hm;have he:P.elem T=e:=by simp [Program.elem,ht.h]
 have hl:P.arrayLen T=len:=by simp [Program.arrayLen,ht.h]
 have hu:P.underlying T=some (.array (P.arrayLen T) (P.elem T)):=by rw[he,hl];exact ht.h
 have h1:=run_indexAt_array (P:=P) w T ⟨b,i,none⟩ kd j hu;rw[he,hl,eH hs,Jg ⟨Z8,Z8⟩] at h1;simp only[aa] at h1;have h2:(⟨b,i,none⟩:Addr).add (j.toNat*1)=⟨b,i+k,none⟩:=by rw[hj];simp [Addr.add]
 rw[h2] at h1;simp only[execOp,ho,ha.eval hx,ha.eval hy,aH,ab,h1,aa,ah]
theorem YP {b i by':Nat} {cs:List Value} {t:TypeId} [ht:Ty P T false 1 by' z'] (ho:o.op= .load T x) (hx:ev F x=some (aH b i)) (p:bQ (box b cs t) H R) (hv:cs[i]? =some v):Qt P n o F H v:=
 vG (vs := [v]) ho hx p (by
  rw [aj] at hv;obtain ⟨h1, h2⟩ := hv;rw [List.drop_eq_getElem_cons h1, h2];rfl) rfl (oH v)
theorem aBQ {k':IntKind} {i j r:Int} {m:Nat} {T':TypeId} (ho:o.op= .binOp .shl T x y T') (hx:ev F x=some (.int .i64 i)) (hy:ev F y=some (.int k' j)) (hj:j=(m:Int)) (hm:m≤62) (hr:kx.wrap (i*2^m)=r):Qt P n o F H (.int .i64 r):=
 aBD (hp:=⟨by rw[hj];rfl,Z8,Z8⟩) ho hx hy (jd (by simp [jm];omega)) hr
theorem aBR {k k':IntKind} {i j r:Int} {m:Nat} {T':TypeId} (ho:o.op= .binOp .shr T x y T') (hx:ev F x=some (.int k i)) (hy:ev F y=some (.int k' j)) (hj:j=(m:Int)) (hm:m≤8) (hr:i/2^m=r):Qt P n o F H (.int k r):=by
 subst hr;exact aPD (hp:=⟨by rw[hj];rfl,Z8,Z8⟩) ho hx hy (jd (by cases k<;>simp [jm]<;>omega))
end
end sl
namespace lens
open Go.RowKit bO sl
def wQ (l:List Int):List Int:=(mn l.length).map fun i=>((iG l i:Nat):Int)
theorem avN (l:List Int):(wQ l).length=l.length:=by simp [wQ]
def aDL (l:List Int) (v:Value) (H':List Ent):Prop:=(dD l≠0∧v= .tuple #[.slice none 0 0, .int .i64 (dD l:Int)]∧H'=[])∨
 (dD l=0∧ ∃ q c,v= .tuple #[.slice q l.length c, .int .i64 0]∧H'=[own (.slice q l.length c) 3 1 l.length (flat fI (wQ l))])
theorem PF (l:List Int):flat fI l=l.map fun x=>gh .i64 x:=by
 induction l with
 |nil=>rfl
 |cons x l ih=>show fI x++flat fI l=_;rw[ih];rfl
theorem ahZ (q : Option Addr) (c : Nat) (l : List Int) (hg : ∀ x ∈ l, (kg .i64 x).wf = true) (hn : l.length ≤ 1000000000000000) : Ct lk 313 [.slice q l.length c] [sl 1 (.slice q l.length c) (l.map fI)] (aDL l) := ⟨fun Fr w hw => by
 refine (avM (.slice q l.length c) l w hw.head hg hn).mono fun e w' ⟨zx,hb⟩=> ?_
 have zy:aG Fr w:=hw.tail;have hm:oB (fun _=>False) w w':=⟨hb.os,hb.tape,hb.output,hb.size,fun b zw _=>hb.block b zw⟩;rcases zx with⟨h1,h2⟩|⟨h1,G,h2,h3,h4⟩
 ·exact⟨_,[],h2, .inl ⟨h1,rfl,rfl⟩,zy.aOL hm⟩
 ·refine⟨_,[own (.slice (some ⟨G,0,none⟩) l.length l.length) 3 1 l.length (flat fI (wQ l))],h2, .inr ⟨h1,_,_,rfl,rfl⟩, ?_⟩;refine aG.new zy hm ?_ fun b hb=> ?_
  ·obtain⟨cs,k1,k2,k3⟩:=h4;have k4:cs.toList=flat fI (wQ l):=by
    rw[PF];apply List.ext_getElem?;intro i;rw[dp,wQ,dp,Array.getElem?_toList];rcases ig i l.length with hi|hi
    ·rw[k3 i hi,List.getElem?_range hi];rfl
    ·rw[Array.getElem?_eq_none Z8,List.getElem?_eq_none (by simpa using hi)];rfl
   refine⟨by rw[PF];simp [wQ], .inr ⟨G,l.length,cs,rfl,fe _,k1,df _,by unfold maxLen;omega,by rw[k2,gy], ?_⟩⟩;rw[k4];exact List.take_of_length_le (by rw[PF];simp [wQ])
  ·have : G = b := a7 hb;omega⟩
end lens
namespace code
open Go.RowKit bO sl lens
instance:Arr lk 349 16 3:=⟨Jd⟩
def wR (q:Value) (A R C:Nat→Int):List Value:=q::((mn 16).map fun i=>gh .i64 (A i))++((mn 16).map fun i=>gh .i64 (R i))++((mn 16).map fun i=>gh .i64 (C i))
theorem mN (q:Value) (A R C:Nat→Int):(wR q A R C).length=49:=rfl
theorem aTS (q:Value) (A R C:Nat→Int):(wR q A R C)[0]? =some q:=rfl
theorem aTT {q:Value} {A R C:Nat→Int} {i:Nat} (h:i<16):(wR q A R C)[1+i]? =some (.int .i64 (A i)):=by
 obtain rfl|rfl|rfl|rfl|rfl|rfl|rfl|rfl|rfl|rfl|rfl|rfl|rfl|rfl|rfl|rfl:i=0∨i=1∨i=2∨i=3∨i=4∨i=5∨i=6∨i=7∨i=8∨i=9∨i=10∨i=11∨i=12∨i=13∨i=14∨i=15:=Z8
 all_goals rfl
theorem aTU {q:Value} {A R C:Nat→Int} {i:Nat} (h:i<16):(wR q A R C)[17+i]? =some (.int .i64 (R i)):=by
 obtain rfl|rfl|rfl|rfl|rfl|rfl|rfl|rfl|rfl|rfl|rfl|rfl|rfl|rfl|rfl|rfl:i=0∨i=1∨i=2∨i=3∨i=4∨i=5∨i=6∨i=7∨i=8∨i=9∨i=10∨i=11∨i=12∨i=13∨i=14∨i=15:=Z8
 all_goals rfl
theorem aTV {q:Value} {A R C:Nat→Int} {i:Nat} (h:i<16):(wR q A R C)[33+i]? =some (.int .i64 (C i)):=by
 obtain rfl|rfl|rfl|rfl|rfl|rfl|rfl|rfl|rfl|rfl|rfl|rfl|rfl|rfl|rfl|rfl:i=0∨i=1∨i=2∨i=3∨i=4∨i=5∨i=6∨i=7∨i=8∨i=9∨i=10∨i=11∨i=12∨i=13∨i=14∨i=15:=Z8
 all_goals rfl
def upf (A:Nat→Int) (i:Nat) (x:Int):Nat→Int:=fun j=>if j=i then x else A j
theorem aKZ (q q':Value) (A R C:Nat→Int):(wR q A R C).set 0 q'=wR q' A R C:=rfl
theorem aLA {q:Value} {A R C:Nat→Int} {i:Nat} {x:Int} (h:i<16):(wR q A R C).set (1+i) (.int .i64 x)=wR q (upf A i x) R C:=by
 obtain rfl|rfl|rfl|rfl|rfl|rfl|rfl|rfl|rfl|rfl|rfl|rfl|rfl|rfl|rfl|rfl:i=0∨i=1∨i=2∨i=3∨i=4∨i=5∨i=6∨i=7∨i=8∨i=9∨i=10∨i=11∨i=12∨i=13∨i=14∨i=15:=Z8
 all_goals rfl
theorem aLB {q:Value} {A R C:Nat→Int} {i:Nat} {x:Int} (h:i<16):(wR q A R C).set (17+i) (.int .i64 x)=wR q A (upf R i x) C:=by
 obtain rfl|rfl|rfl|rfl|rfl|rfl|rfl|rfl|rfl|rfl|rfl|rfl|rfl|rfl|rfl|rfl:i=0∨i=1∨i=2∨i=3∨i=4∨i=5∨i=6∨i=7∨i=8∨i=9∨i=10∨i=11∨i=12∨i=13∨i=14∨i=15:=Z8
 all_goals rfl
theorem arB {q:Value} {A R C:Nat→Int} {i:Nat} {x:Int} (h:i<16):(wR q A R C).set (33+i) (.int .i64 x)=wR q A R (upf C i x):=by
 obtain rfl|rfl|rfl|rfl|rfl|rfl|rfl|rfl|rfl|rfl|rfl|rfl|rfl|rfl|rfl|rfl:i=0∨i=1∨i=2∨i=3∨i=4∨i=5∨i=6∨i=7∨i=8∨i=9∨i=10∨i=11∨i=12∨i=13∨i=14∨i=15:=Z8
 all_goals rfl
def idx (l:List Int) (w k:Nat):List Int:=((mn k).filter fun i=>l[i]? =some (w:Int)).map fun i:Nat=>(i:Int)
theorem aDN (l:List Int) (w:Nat):idx l w 0=[]:=rfl
theorem SL {l:List Int} {w k:Nat} {x:Int} (h:l[k]? =some x):idx l w (k+1)=if x=(w:Int) then idx l w k++[(k:Int)] else idx l w k:=by
 unfold idx;rw[List.range_succ,List.filter_append,List.map_append];by_cases hx:x=(w:Int)
 ·rw[Jg hx];simp [h,hx]
 ·rw[Jf hx];simp [h,hx]
theorem arC (l:List Int) (w k:Nat):(idx l w k).length≤k:=by
 unfold idx;rw[gp];have:=List.length_filter_le (fun i=>decide (l[i]? =some (w:Int))) (mn k);simpa using this
def rQ (l:List Int):Nat→List Int
 |0=>[]
 |w+1=>rQ l w++idx l (w+1) l.length
theorem arD (l:List Int) (w:Nat):(rQ l w).length≤w*l.length:=by
 induction w with
 |zero=>simp [rQ]
 |succ w ih=>
  rw[rQ,ae,ff];have:=arC l (w+1) l.length;omega
def fA (l:List Int) (w j:Nat):Int:=if j<w then (KI l j:Int) else 0
def fR (l:List Int) (w j:Nat):Int:=if j<w then ((rQ l (j-1)).length:Int) else 0
def fC (l:List Int) (j:Nat):Int:=if j=0 then 0 else (cnt l j:Int)
def KJ (l:List Int) (j:Nat):Int:=(cnt l j:Int)
theorem aPJ (l:List Int) (j:Nat):0≤fC l j∧fC l j≤(l.length:Int):=by
 unfold fC;have:=rP l j;split<;>omega
theorem aLC (l:List Int) (w:Nat):upf (fA l w) w (KI l w:Int)=fA l (w+1):=by
 funext j;unfold upf fA;by_cases h:j=w
 ·subst h;rw[Jg rfl,Jg Z8]
 ·rw[Jf h];by_cases h2:j<w
  ·rw[Jg h2,Jg Z8]
  ·rw[Jf h2,Jf Z8]
theorem aLD (l:List Int) (w:Nat):upf (fR l w) w ((rQ l (w-1)).length:Int)=fR l (w+1):=by
 funext j;unfold upf fR;by_cases h:j=w
 ·subst h;rw[Jg rfl,Jg Z8]
 ·rw[Jf h];by_cases h2:j<w
  ·rw[Jg h2,Jg Z8]
  ·rw[Jf h2,Jf Z8]
theorem avO {l:List Int} {k m:Nat} (h:l[k]? =some (m:Int)):upf (KJ (l.take k)) m (KJ (l.take k) m+1)=KJ (l.take (k+1)):=by
 funext j;unfold upf KJ;rw[pJ h];by_cases hj:j=m
 ·subst hj;rw[Jg rfl,Jg rfl];omega
 ·rw[Jf hj,Jf Z8];omega
theorem aDO (l:List Int):upf (KJ l) 0 0=fC l:=by
 funext j;unfold upf KJ fC;rfl
theorem aQV (l:List Int) {w:Nat} (h:1≤w):((KI l (w-1):Int)+fC l (w-1))*2=(KI l w:Int):=by
 obtain⟨v,rfl⟩: ∃ v,w=v+1:=⟨w-1,Z8⟩;rw[nb];cases v with
 |zero=>simp [KI,fC]
 |succ v=>simp [KI,fC]
end code
namespace code
open Go.RowKit bO sl lens
attribute [local irreducible] wR
attribute [local irreducible] box own sl bL aH bJ Qt cN cM dG dL eQ
def SN (q:Option Addr) (c:Nat) (l:List Int):List Value:=wR (.slice q (rQ l 15).length c) (fA l 16) (fR l 16) (fC l)
theorem aLE:wR (.slice none 0 0) (fun _=>0) (fun _=>0) (fun _=>0)= .slice none 0 0::List.replicate 48 (.int .i64 0):=by unfold wR;rfl
theorem aQW (l:List Int):(fun _=>0)=fA l 1:=by
 funext j;unfold fA;split
 ·rename_i h;rw[show j=0 by omega];rfl
 ·rfl
theorem aQX (l:List Int):(fun _=>0)=fR l 1:=by
 funext j;unfold fR;split
 ·rename_i h;rw[show j=0 by omega];rfl
 ·rfl
theorem vW {cs us:List Value} (h:us.length=cs.length):gM cs 0 us=us:=by
 rw[kH _ _ _ Z8];simp [h]
theorem avP (l:List Int):(fun _=>0)=KJ (l.take 0):=by
 funext j;rfl
theorem SO (q:Option Addr) (c:Nat) (l:List Int) (hg: ∀ x∈l,0≤x∧x≤15) (hn:l.length≤320):
  Ct lk 314 [.slice q l.length c] [sl 1 (.slice q l.length c) (l.map fI)] fun v H'=> ∃ q2 c2,v= .agg (SN q2 c2 l).toArray∧H'=[own (.slice q2 (rQ l 15).length c2) 3 1 (rQ l 15).length (flat fI (rQ l 15))]:=by
 unfold SN;(refine Ye Tryz.func314 Tryz.ntmps314 ?_;intro Fr);(repeat' (first|refine Y3 ?_|(refine Wb ?_;intro b)|fail));rename_i b2;refine aO (H':=box b (wR (.slice none 0 0) (fA l 1) (fR l 1) (KJ (l.take 0))) 351::box b2 (wR (.slice none 0 0) (fA l 1) (fR l 1) (KJ (l.take 0))) 351::sl 1 (.slice q l.length c) (l.map fI)::Fr) ?_ ?_
 ·rw[←aQW l, ←aQX l, ←avP l,aLE];exact HSub.refl _
 (refine aC (σ:=Nat) (fun k=>k≤l.length) (fun k=>[(12, .int .i64 (k:Int))]) (fun k=>[box b (wR (.slice none 0 0) (fA l 1) (fR l 1) (KJ (l.take k))) 351]) _ (fun k=>l.length-k) (0) Zx Ze Zb (fun k hk=> ?_);refine Da ?_);rcases ig k l.length with hlt|zm
 ·obtain⟨x,hx⟩: ∃ x,l[k]? =some x:=⟨_,ak hlt⟩;obtain⟨zl,hx15⟩:=hg x (jg hx);obtain⟨m,rfl⟩:=Int.eq_ofNat_of_zero_le zl;have zk:=avO hx;have zj:0≤KJ (l.take k) m∧KJ (l.take k) m≤320:=by
   unfold KJ;have:=rP (l.take k) m;rw[List.length_take] at this;omega
  refine ET ?_;refine dC wt (cR rfl rfl rfl rfl aU (by rw[mN];simp;omega) (arB Z8)) ?_;rintro _ _ ⟨rfl,rfl⟩;rw[zk];refine iC ?_;refine Ee (k+1) ?_ ?_
  ·omega
  ·omega
 ·have zh:k=l.length:=Z8
  subst zh;refine bM ?_;rw[mz];refine oI 3 rfl wt rfl (xF (k:=0) rfl rfl rfl rfl Z8 rfl) ?_;refine dC wt (cR rfl rfl rfl rfl aU ZS (arB (i:=0) Z8)) ?_;rintro _ _ ⟨rfl,rfl⟩;rw[aDO];refine bM ?_;refine aO (aS _ 3 1) ?_;(refine aC (σ:=Nat×Option Addr×Nat×List Int) (fun x=>1≤x.1∧x.1≤16∧x.2.2.2=rQ l (x.1-1)) (fun x=>[(6, .int .i64 ((KI l (x.1-1):Nat):Int)),(7, .int .i64 (x.1:Int))]) (fun x=>[box b (wR (.slice x.2.1 x.2.2.2.length x.2.2.1) (fA l x.1) (fR l x.1) (fC l)) 351,own (.slice x.2.1 x.2.2.2.length x.2.2.1) 3 1 x.2.2.2.length (flat fI x.2.2.2)]) _ (fun x=>16-x.1) ((1,none,0,[])) (by exact⟨df _,Z9,rfl⟩) Ze Zb (fun⟨w,q2,c2,sg⟩ ⟨zr,zu,zw⟩=> ?_);refine Da ?_);dsimp only at zr zu zw ⊢;rcases ig w 16 with hlt|zm
  ·have hw':(w:Int)-1=((w-1:Nat):Int):=Z8
   have hnb:=adC l hn (w-1) Z8;have zj:=aPJ l (w-1);have zg:=aQV l zr;have zf:=aLC l w;have zq:=aLD l w;rw[←zw] at zq;have hsl:sg.length≤4800:=by
    rw[zw];have h1:=arD l (w-1);have h2:(w-1)*l.length≤15*320:=n6 Z8 hn;omega
   refine ET ?_;rw[zg];refine dC wt (cR rfl rfl rfl rfl aU (by rw[mN];simp;omega) (aLA Z8)) ?_;rintro _ _ ⟨rfl,rfl⟩;rw[zf];refine ET ?_;refine dC wt (cR rfl rfl rfl rfl aU (by rw[mN];simp;omega) (aLB Z8)) ?_;rintro _ _ ⟨rfl,rfl⟩;rw[zq];refine bM ?_;(refine aC (σ:=Nat×Option Addr×Nat×List Int) (fun x=>x.1≤l.length∧x.2.2.2=sg++idx l w x.1) (fun x=>[(50, .int .i64 (x.1:Int))]) (fun x=>[box b (wR (.slice x.2.1 x.2.2.2.length x.2.2.1) (fA l (w+1)) (fR l (w+1)) (fC l)) 351,own (.slice x.2.1 x.2.2.2.length x.2.2.1) 3 1 x.2.2.2.length (flat fI x.2.2.2)]) _ (fun x=>l.length-x.1) ((0,q2,c2,sg)) (by exact⟨fe _,by rw[aDN,List.append_nil]⟩) Ze Zb (fun⟨i,q3,c3,sg2⟩ ⟨hi,zy⟩=> ?_);refine Da ?_);dsimp only at hi zy ⊢;rcases ig i l.length with zx|hge2
   ·obtain⟨x,hx⟩: ∃ x,l[i]? =some x:=⟨_,ak zx⟩;have zv:=SL (w:=w) hx;have hsl2:sg2.length≤5120:=by
     rw[zy,ae];have:=arC l w i;omega
    by_cases zn:x=(w:Int)
    ·rw[Jg zn] at zv;(repeat' (first|refine We1 ?_|refine Wa ?_|refine We ?_|(refine Wq ?_;intro q)|fail));refine aL wt rfl (by first|exact Ma (fI) [(i:Int)] rfl|exact Mb (fI) [(i:Int)] rfl) ?_;rintro _ _ ⟨q4,c4,rfl,rfl⟩;refine iC ?_;refine dC wt (cR rfl rfl rfl rfl aU ZS (aKZ ..)) ?_;rintro _ _ ⟨rfl,rfl⟩;refine iC ?_;refine Ee ((i+1,q4,c4,sg2++[(i:Int)])) ?_ ?_
     ·exact⟨zx,by dsimp only;rw[zv,zy,List.append_assoc]⟩
     ·dsimp only;omega
    ·rw[Jf zn] at zv;refine bM ?_;refine Ee ((i+1,q3,c3,sg2)) ?_ ?_
     ·exact⟨zx,by dsimp only;rw[zv,zy]⟩
     ·dsimp only;omega
   ·have ze:i=l.length:=Z8
    subst ze;refine bM ?_;refine Ee ((w+1,q3,c3,sg2)) ?_ ?_
    ·refine⟨Z8,by dsimp only;omega, ?_⟩;show sg2=rQ l (w+1-1);rw[zy,zw];obtain⟨v,rfl⟩: ∃ v,w=v+1:=⟨w-1,Z8⟩;rfl
    ·dsimp only;omega
  ·have hw:w=16:=Z8
   subst hw;have zt:sg=rQ l 15:=zw;subst zt;refine bM ?_;refine oI 2 rfl wt rfl (BK rfl rfl aU (mN ..)) ?_;refine dC wt (dR rfl rfl rfl aU (mN ..) (by rw[mN,mN];rfl) ?_ (vW (by rw[mN,mN]))) ?_
   ·unfold wR;simp [Value.oneCell']
   rintro _ _ ⟨rfl,rfl⟩;refine iC ?_;exact qE rfl (DZ.r1 (gQ rfl aU (mN ..))) _ ⟨q2,c2,rfl,rfl⟩ MN
end code
namespace code
open Go.RowKit bO sl lens
attribute [local irreducible] wR
theorem aDP: ∀ n:Fin 256,bits BinOp.and kz ((n.val:Nat):Int) 1=((n.val%2:Nat):Int):=Je
theorem or1 (K b:Nat) (hK:K<1099511627776) (hb:b<2):bits BinOp.or kx ((K:Int)*2) (b:Int)=((K*2+b:Nat):Int):=by
 have e:bits BinOp.or kx ((K:Int)*2) (b:Int)=wrap64 (((BitVec.ofInt 64 ((K:Int)*2)|||BitVec.ofInt 64 (b:Int)).toNat:Nat):Int):=IntWalk.i64_left _;have e2:(BitVec.ofInt 64 ((K:Int)*2)|||BitVec.ofInt 64 (b:Int)).toNat=K*2+b:=by
  rw[BitVec.toNat_or,show ((K:Int)*2)=((K*2:Nat):Int) by omega,ofInt_u64 (K*2) Z8,ofInt_u64 b Z8];exact nat_join 1 (K*2) b Z8 Z8
 rw[e,e2,IntWalk.wrap64_in _ Z8]
def aiA (A C:Nat→Int) (c w v:Nat):Prop:=0<C v∧((c*2^(v-w):Nat):Int)<A v+C v∧A v<((c*2^(v-w):Nat):Int)+((2^(v-w):Nat):Int)
instance (A C:Nat→Int) (c w v:Nat):Decidable (aiA A C c w v):=by unfold aiA;infer_instance
def XF (A C:Nat→Int) (c w:Nat):Bool:=(mn 16).any fun v=>decide (w≤v∧aiA A C c w v)
theorem FZ (A C:Nat→Int) (c w:Nat):XF A C c w=true↔ ∃ v,v<16∧w≤v∧aiA A C c w v:=by
 unfold XF;simp [List.any_eq_true]
attribute [local irreducible] box own sl bL aH bJ Qt cN cM dG dL eQ
theorem amV (b : Nat) (q : Value) (A R C : Nat → Int) (c w : Nat) (hA : ∀ v, v < 16 → 0 ≤ A v ∧ A v ≤ 100000000) (hC : ∀ v, v < 16 → 0 ≤ C v ∧ C v ≤ 100000000) (hc : c ≤ 65536) (hw : w ≤ 15) :
    Ct lk 315 [aH b 0, .int .i64 (c : Int), .int .i64 (w : Int)] [box b (wR q A R C) 351] fun v H' => v = .bool (XF A C c w) ∧ H' = [box b (wR q A R C) 351] := by
  (refine Ye Tryz.func315 Tryz.ntmps315 ?_; intro Fr)
  refine bM ?_
  (refine cU (σ := Nat) (fun v => w ≤ v ∧ v ≤ 16 ∧ ∀ u, w ≤ u → u < v → ¬ aiA A C c w u) (fun v => [(7, .int .i64 (v : Int))]) (fun v => 16 - v) (w) (by exact ⟨df _, Z8, fun u h1 h2 => absurd h1 Z8⟩) Ze (fun v ⟨zv, hv2, zx⟩ => ?_); refine Da ?_)
  rcases ig v 16 with hlt | hge
  · have hj : (v : Int) - (w : Int) = ((v - w : Nat) : Int) :=Z8
    obtain ⟨a1, a2⟩ := hA v hlt
    obtain ⟨c1, c2⟩ := hC v hlt
    have hp : 2 ^ (v - w) ≤ 2 ^ 15 := mr Z9 Z8
    have hT : aiA A C c w v ↔ 0 < C v ∧ ((c * 2 ^ (v - w) : Nat) : Int) < A v + C v ∧ A v < ((c * 2 ^ (v - w) : Nat) : Int) + ((2 ^ (v - w) : Nat) : Int) := Iff.rfl
    obtain ⟨p2, zw⟩ : ∃ p2, 2 ^ (v - w) = p2 := ⟨_, rfl⟩
    have zy : (2 : Int) ^ (v - w) = (p2 : Int) := by rw [← zw]; push_cast; rfl
    rw [zw] at hT hp
    have hlo : c * p2 ≤ 65536 * 32768 := n6 hc hp
    have hr1 : kx.wrap ((c : Int) * 2 ^ (v - w)) = ((c * p2 : Nat) : Int) := by
      rw [zy, show (c : Int) * (p2 : Int) = ((c * p2 : Nat) : Int) by push_cast; rfl]
      generalize c * p2 = z at *
      exact tC Z8
    have hr2 : kx.wrap ((1 : Int) * 2 ^ (v - w)) = (p2 : Int) := by
      rw [zy, Int.one_mul]
      exact tC Z8
    generalize c * p2 = lo at *
    clear zy
    (repeat' (first | refine We1 ?_ | refine Wa ?_ | refine Wk ?_ | refine We ?_ | (refine Ws ?_ ?_ <;> intro h) | fail))
    all_goals first
      | (have e : XF A C c w = true := (FZ A C c w).2 ⟨v, hlt, zv, hT.2 ⟨Z8, Z8, Z8⟩⟩
         rw [e]
         exact Ea (x := ⟨rfl, rfl⟩))
      | (refine Ee (v + 1) ?_ ?_
         · refine ⟨Z8, Z8, fun u h1 h2 => ?_⟩
           rcases ig u v with h3 | h3
           · exact zx u h1 h3
           · have h4 : u = v :=Z8
             subst h4
             rw [hT]
             rintro ⟨_, _, _⟩
             omega
         · omega)
  · have hv : v = 16 :=Z8
    subst hv
    have e : XF A C c w = false := by
      rw [nh, Ne, FZ]
      rintro ⟨u, h1, h2, h3⟩
      exact zx u h2 h1 h3
    rw [e]
    refine bM ?_
    exact Ea (x := ⟨rfl, rfl⟩)
theorem aDQ {A C:Nat→Int} {c:Nat} (h: ¬ (A 15≤(c:Int)∧(c:Int)<A 15+C 15)):XF A C c 15=false:=by
 rw[nh,Ne,FZ];rintro⟨v,h1,h2,h3⟩;have hv:v=15:=Z8
 subst hv;unfold aiA at h3;rw[Nat.sub_self,Nat.pow_zero,gy] at h3;omega
def avQ (s:List UInt8) (k:Nat):Nat:=(s.getD (k/8) 0).toNat/2^(k%8)%2
def XG (A R C:Nat→Int) (sg:List Int) (s:List UInt8):Nat→Nat→Nat→Nat→Int×Nat×Int
 |0,_,_,_=>(0,0,7)
 |k+1,w,c,at'=>if 0<w∧A w≤(c:Int)∧(c:Int)<A w+C w then (sg.getD (R w+c-A w).toNat 0,at',0)
  else if XF A C c w=false then (0,0,7)
  else if 8*s.length≤at' then (0,0,3)
  else XG A R C sg s k (w+1) (c*2+avQ s at') (at'+1)
theorem aLF (b:Nat) (q:Option Addr) (c:Nat) (sg:List Int) (A R C:Nat→Int) (s:List UInt8) (at':Nat) (hA: ∀ v,v<16→0≤A v∧A v≤100000000) (hC: ∀ v,v<16→0≤C v∧C v≤100000000) (hR: ∀ v,v<16→0≤R v∧R v+C v≤(sg.length:Int)) (hsg:sg.length≤100000000) (hs:s.length≤140737488351232) (zr:at'≤8*s.length):
  Ct lk 265 [aH b 0, .string (str s), .int .i64 (at':Int)] [box b (wR (.slice q sg.length c) A R C) 351,sl 1 (.slice q sg.length c) (sg.map fI)]
   fun v H'=>v= .tuple #[.int .i64 (XG A R C sg s 16 0 0 at').1, .int .i64 ((XG A R C sg s 16 0 0 at').2.1:Int), .int .i64 (XG A R C sg s 16 0 0 at').2.2]∧H'=[box b (wR (.slice q sg.length c) A R C) 351]:=by
 generalize hr:XG A R C sg s 16 0 0 at'=r;obtain⟨r1,r2,r3⟩:=r;(refine Ye Tryz.func265 Tryz.ntmps265 ?_;intro Fr);refine bM ?_;(refine aC (σ:=Nat×Nat×Nat) (fun x=>x.1≤15∧x.2.1<2^x.1∧x.2.2≤8*s.length∧XG A R C sg s (16-x.1) x.1 x.2.1 x.2.2=(r1,r2,r3)) (fun x=>[(10, .int .i64 (x.1:Int)),(9, .int .i64 (x.2.1:Int)),(2, .int .i64 (x.2.2:Int))]) (fun x=>[box b (wR (.slice q sg.length c) A R C) 351]) _ (fun x=>15-x.1) ((0,0,at')) (by exact⟨fe _,Nat.zero_lt_one,zr,hr⟩) Ze Zb (fun⟨w,cc,k⟩ ⟨hw,zq,hk,zy⟩=> ?_);refine Da ?_);dsimp only at hw zq hk zy ⊢;have hf:16-w=(15-w)+1:=Z8
 rw[hf,XG] at zy;have hp:2^w≤2^15:=mr Z9 hw;obtain⟨a1,a2⟩:=hA w Z8;obtain⟨c1,c2⟩:=hC w Z8;obtain⟨d1,d2⟩:=hR w Z8;have L0:=amV b (.slice q sg.length c) A R C cc w hA hC Z8 hw;by_cases h1:0<w∧A w≤(cc:Int)∧(cc:Int)<A w+C w
 ·rw[Jg h1] at zy;obtain⟨g1,g2,g3⟩:=h1;cases zy;obtain⟨j,hj⟩: ∃ j:Nat,R w+cc-A w=(j:Int):=⟨(R w+cc-A w).toNat,Z8⟩;have zn:j<sg.length:=Z8
  obtain⟨x,hx⟩: ∃ x,sg[j]? =some x:=⟨_,ak zn⟩;have zm:sg.getD (R w+cc-A w).toNat 0=x:=by rw[hj,Int.toNat_natCast,my,hx];rfl
  rw[zm];(repeat' (first|refine We1 ?_|refine Wa ?_|refine Wk ?_|refine We ?_|refine Wz ?_|fail));(refine aB 19 ?_;refine bN _ rfl rfl wt Je kA rfl (lF (i:=j) rfl rfl rfl aU hj ZA) ?_);refine sO ?_;exact Ea (x:=⟨rfl,rfl⟩)
 ·rw[Jf h1] at zy;by_cases h2:XF A C cc w=false
  ·rw[Jg h2] at zy;cases zy;rw[h2] at L0;(repeat' (first|refine We1 ?_|refine Wa ?_|refine Wk ?_|refine We ?_|(refine Ws ?_ ?_<;>intro h)|fail));all_goals ((refine Ca (L0) ?_;rintro _ _ ⟨_,⟨rfl,rfl⟩,rfl⟩;refine Da ?_))
   all_goals (refine bM ?_)
   all_goals (exact Ea (x:=⟨rfl,rfl⟩))
  ·rw[Jf h2] at zy;have zw:XF A C cc w=true:=by simpa using h2
   rw[zw] at L0;have hw14:w≤14:=by
    rcases ig w 15 with h|h
    ·omega
    ·have zv:w=15:=Z8
     subst zv;rw[aDQ fun h=>h1 ⟨Z8,h⟩] at zw;cases zw
   by_cases h3:8*s.length≤k
   ·rw[Jg h3] at zy;cases zy;(repeat' (first|refine We1 ?_|refine Wa ?_|refine Wk ?_|refine We ?_|(refine Ws ?_ ?_<;>intro h)|fail));all_goals ((refine Ca (L0) ?_;rintro _ _ ⟨_,⟨rfl,rfl⟩,rfl⟩;refine Da ?_))
    all_goals (refine bM ?_)
    all_goals (exact Ea (x:=⟨rfl,rfl⟩))
   ·rw[Jf h3] at zy;obtain⟨y,hy⟩: ∃ y,s[k/8]? =some y:=⟨_,ak Z8⟩;have zu:avQ s k=y.toNat/2^(k%8)%2:=by unfold avQ;rw[my,hy];rfl
    rw[zu] at zy;have zl:=UInt8.toNat_lt y;have hq8:(k:Int)/8=((k/8:Nat):Int):=Z8
    have hr8:(k:Int)%8=((k%8:Nat):Int):=Z8
    have hm8:k%8<8:=jf _ Z9;obtain⟨z,hz⟩: ∃ z,y.toNat/2^(k%8)=z:=⟨_,rfl⟩;have zx:z<256:=by
     rw[←hz];exact Nat.lt_of_le_of_lt (Nat.div_le_self _ _) zl
    have hshr:(y.toNat:Int)/2^(k%8)=(z:Int):=by rw[←hz];push_cast;rfl
    have hand:bits BinOp.and kz (z:Int) 1=((z%2:Nat):Int):=aDP ⟨z,zx⟩;rw[hz] at zy;have zk:z%2<2:=jf _ Z9;generalize z%2=t at*;have hor:=or1 cc t Z8 zk;have zt:cc*2+t<2^(w+1):=by rw[n8];omega
    (repeat' (first|refine We1 ?_|refine Wa ?_|refine Wk ?_|refine We ?_|(refine Ws ?_ ?_<;>intro h)|fail));all_goals ((refine Ca (L0) ?_;rintro _ _ ⟨_,⟨rfl,rfl⟩,rfl⟩;refine Da ?_))
    all_goals (refine ET ?_)
    all_goals (refine Ee ((w+1,cc*2+t,k+1)) ?_ ?_)
    all_goals first
     |exact⟨by dsimp only;omega,zt,by dsimp only;omega,by dsimp only;rw[show 16-(w+1)=15-w by omega];exact zy⟩
     |(dsimp only;omega)
end code
namespace code
open Go.RowKit bO sl lens
attribute [local irreducible] wR
theorem adD (l:List Int) (w:Nat): ∀ k,k≤l.length→(idx l w k).length=cnt (l.take k) w:=by
 intro k;induction k with
 |zero=>intro _;rfl
 |succ k ih=>
  intro hk;obtain⟨x,hx⟩: ∃ x,l[k]? =some x:=⟨_,ak Z8⟩;rw[SL hx,pJ hx];split
  ·rw[ae,List.length_singleton,ih Z8]
  ·rw[ih Z8,Nat.add_zero]
theorem aiB (l:List Int) (a:Nat): ∀ b,a≤b→(rQ l a).length≤(rQ l b).length:=by
 intro b h;induction b with
 |zero=>rw[show a=0 by omega];exact df _
 |succ b ih=>
  rcases ig a (b+1) with h1|h1
  ·have:=ih Z8;rw[rQ,ae];omega
  ·rw[show a=b+1 by omega];exact df _
theorem aQY {l:List Int} (hl:l.length≤320): ∀ v,v<16→0≤fA l 16 v∧fA l 16 v≤100000000:=by
 intro v hv;have:=adC l hl v Z8;unfold fA;rw[Jg hv];omega
theorem aQZ {l:List Int} (hl:l.length≤320): ∀ v,v<16→0≤fC l v∧fC l v≤100000000:=by
 intro v hv;have:=aPJ l v;omega
theorem aRA (l:List Int): ∀ v,v<16→0≤fR l 16 v∧fR l 16 v+fC l v≤((rQ l 15).length:Int):=by
 intro v hv;unfold fR fC;rw[Jg hv];cases v with
 |zero=>rw[Jg rfl];exact⟨jy _,by show (0:Int)+0≤_;omega⟩
 |succ v=>
  have h1:=aiB l (v+1) 15 Z8;have h2:=adD l (v+1) l.length (df _);rw[mz] at h2;have h3:(rQ l (v+1)).length=(rQ l v).length+cnt l (v+1):=by rw[rQ,ae,h2]
  rw[Jf Z8,nb];omega
def one (l:List Int) (s:List UInt8) (k:Nat):Int×Nat×Int:=XG (fA l 16) (fR l 16) (fC l) (rQ l 15) s 16 0 0 k
theorem jY {l:List Int} (h:dD l=0):l.length≤320∧ ∀ x∈l,0≤x∧x≤15:=by
 have h1:eM l=0:=by
  unfold dD at h;split at h
  ·rename_i h9;exact absurd h h9
  ·rename_i h9;exact aab.1 h9
 unfold eM at h1;split at h1
 ·cases h1
 ·rename_i h2;split at h1
  ·cases h1
  ·rename_i h3;exact⟨Z8,fun x hx=>uJ (by simpa using h3) hx⟩
theorem bY {P:Program} {f:FuncId} {args:List Value} {H:List Ent} {R R':Value→List Ent→Prop} (h:Ct P f args H R) (k: ∀ v H',R v H'→R' v H'):Ct P f args H R':=⟨fun Fr w hw=>(h.go Fr w hw).mono fun e w' ⟨v,H',h1,h2,h3⟩=>⟨v,H',h1,k v H' h2,h3⟩⟩
end code
namespace lens
open Go.RowKit bO
def CH (l:List Int):Nat→Nat
 |0=>0
 |w+1=>CH l w+(if w=0 then 0 else cnt l w*2^(15-w))
theorem uL (l:List Int) (w:Nat) (h:1≤w):CH l (w+1)=CH l w+cnt l w*2^(15-w):=by
 rw[CH,Jf Z8]
theorem adF (l:List Int): ∀ w,1≤w→w≤15→KI l w*2^(15-w)=CH l w:=by
 intro w;induction w with
 |zero=>intro h;omega
 |succ w ih=>
  intro h1 h15;cases w with
  |zero=>simp [KI,CH]
  |succ w=>
   rw[SK _ _ Z8,uL _ _ Z8, ←ih Z8 Z8,Nat.mul_assoc, ←Nat.pow_succ',show (15-(w+1+1)).succ=15-(w+1) from by omega,ff]
theorem avV (x:Int) (l:List Int): ∀ w,CH (x::l) w=CH l w+(if 1≤x∧x<(w:Int) then 2^(15-x.toNat) else 0):=by
 intro w;induction w with
 |zero=>
  rw[Jf Z8];rfl
 |succ w ih=>
  cases w with
  |zero=>rw[Jf Z8];simp [CH]
  |succ w=>
   rw[uL _ (w+1) Z8,uL _ (w+1) Z8,ih,cnt,ff];by_cases h:x=((w+1:Nat):Int)
   ·subst h;rw[Jg rfl,Jf Z8,Jg Z8];simp;omega
   ·rw[Jf h];by_cases h2:1≤x∧x<((w+1:Nat):Int)
    ·rw[Jg h2,Jg Z8];omega
    ·rw[Jf h2,Jf Z8];omega
theorem aEA: ∀ l:List Int,(∀ x∈l,0≤x∧x≤15)→CH l 16=jR l:=by
 intro l;induction l with
 |nil=>intro _;simp [CH,jR,cnt]
 |cons x l ih=>
  intro h;have hx:=h x Ja;rw[avV,jR,ih (fun y hy=>h y (by simp [hy])),wt];by_cases h0:0<x
  ·rw[Jg h0,Jg Z8];omega
  ·rw[Jf h0,Jf Z8];omega
theorem aaP (l:List Int) (v:Nat): ∀ w,v≤w→CH l v≤CH l w:=by
 intro w;induction w with
 |zero=>intro h;rw[show v=0 from by omega];exact df _
 |succ w ih=>
  intro h;by_cases he:v=w+1
  ·subst he;exact df _
  ·have:=ih Z8;rw[CH];omega
theorem aiG (l:List Int) (i j:Nat):cnt (l.take i) j≤cnt l j:=by
 have:=vV (l.take i) (l.drop i) j;rw[List.take_append_drop] at this;omega
def atS (l:List Int) (w i:Nat):Nat:=CH l w+cnt (l.take i) w*2^(15-w)
theorem aEB {l:List Int} {i:Nat} {x:Int} (hp:l[i]? =some x) (w:Nat):atS l w (i+1)=atS l w i+(if x=(w:Int) then 2^(15-w) else 0):=by
 unfold atS;rw[pJ hp,ff];split<;>simp<;>omega
theorem aEC {l:List Int} {i w:Nat} (hp:l[i]? =some (w:Int)) (h1:1≤w) (h15:w≤15):iG l i*2^(15-w)=atS l w i:=by
 rw[FY hp Z8,nx,Jf Z8,ff,adF l w h1 h15,atS]
theorem aRD (l:List Int) (hl: ∀ x∈l,0≤x∧x≤15) (w i:Nat) (h1:1≤w) (h15:w≤15):atS l w i≤jR l:=by
 have h:=aaP l (w+1) 16 Z8;rw[aEA l hl,uL _ _ h1] at h;have h2:=Nat.mul_le_mul_right (2^(15-w)) (aiG l i w);unfold atS;omega
theorem aLK {l:List Int} (hl: ∀ x∈l,0≤x∧x≤15) (hf:jR l≤32768) {i w:Nat} (hp:l[i]? =some (w:Int)) (h1:1≤w) (h15:w≤15):iG l i*2^(15-w)+2^(15-w)≤jR l:=by
 have h:=aEB hp w;rw[Jg rfl] at h;have h2:=aRD l hl w (i+1) h1 h15;rw[aEC hp h1 h15];omega
end lens
namespace pick
abbrev One:=Int×Int×Int
def xO (a b:One):Int:=(1000-a.2.1)*(a.2.2+1)*(1000+b.2.1)
def better (a b:One):Bool:=decide (xO b a<xO a b)||(decide (xO a b=xO b a)&&decide (a.1<b.1))
def XQ (a:One):Prop:=1≤a.2.1∧a.2.1≤1000∧0≤a.2.2∧a.2.2≤2147483647
theorem DT {a b:One}:better a b=true↔xO b a<xO a b∨(xO a b=xO b a∧a.1<b.1):=by
 unfold better;simp
theorem wM {a b : One} : better a b = false ↔ xO a b < xO b a ∨ (xO a b = xO b a ∧ b.1 ≤ a.1) := by
  have h := DT (a := a) (b := b)
  cases hb : better a b with
  | true => rw [hb] at h; simp only [true_iff] at h; constructor
            · intro e; cases e
            · intro e; omega
  | false => rw [hb] at h; simp only [fm, false_iff] at h; simp only [true_iff]; omega
theorem yP {a b:One} (h:better a b=true):better b a=false:=by
 rw[DT] at h;rw[wM];omega
theorem alE (a:One):better a a=false:=by
 rw[wM];exact .inr ⟨rfl,jy _⟩
theorem DU {A A' B B' C C':Int} (hA:0<A') (hB:0<B') (hC:0<C') (h1:A*B'≤B*A') (h2:B*C'≤C*B'):A*C'≤C*A':=by
 have e1:A*B'*C'≤B*A'*C':=mu h1 Z8;have e2:B*C'*A'≤C*B'*A':=mu h2 Z8;have e3:A*C'*B'≤C*A'*B':=by
  calc A*C'*B'=A*B'*C':=by rw[ml,nd C' B', ←ml]
   _≤B*A'*C':=e1
   _=B*C'*A':=by rw[ml,nd A' C', ←ml]
   _≤C*B'*A':=e2
   _=C*A'*B':=by rw[ml,nd B' A', ←ml]
 exact Int.le_of_mul_le_mul_right e3 hB
theorem aNQ {A A' B B' C C':Int} (hA:0<A') (hB:0<B') (hC:0<C') (h1:A*B'≤B*A') (h2:B*C'≤C*B') (h:A*C'=C*A'):A*B'=B*A'∧B*C'=C*B':=by
 have k1:=DU hB hC hA h2 (n9 h.symm);have k2:=DU hC hA hB (n9 h.symm) h1;omega
theorem LW {a b c:One} (ha:XQ a) (hb:XQ b) (hc:XQ c) (h1:better a b=false) (h2:better b c=false):better a c=false:=by
 rw[wM] at h1 h2 ⊢;unfold XQ at ha hb hc;have pa:0<1000+a.2.1:=Z8
 have pb:0<1000+b.2.1:=Z8
 have pc:0<1000+c.2.1:=Z8
 have k1:xO a b≤xO b a:=Z8
 have k2:xO b c≤xO c b:=Z8
 have k3:xO a c≤xO c a:=DU pa pb pc k1 k2;rcases Int.lt_or_eq_of_le k3 with h|h
 ·exact .inl h
 ·have := aNQ pa pb pc k1 k2 h;exact .inr ⟨h, by
   have e1 : xO a b = xO b a := this.1;have e2 : xO b c = xO c b := this.2;omega⟩
def CZ (l:List One) (n p:Nat):Prop:= ∀ c a b,(c=2*p+1∨c=2*p+2)→c<n→l[c]? =some a→l[p]? =some b→better a b=false
def iM (l:List One) (n k:Nat):Prop:= ∀ p,k≤p→CZ l n p
def swp (l:List One) (i j:Nat) (x y:One):List One:=(l.set i y).set j x
theorem aIQ {l:List One} {i j:Nat} {x y:One} (hi:i<l.length) (hj:j<l.length) (hne:i≠j) (k:Nat):(swp l i j x y)[k]? =if k=j then some x else if k=i then some y else l[k]? :=by
 unfold swp;rw[ic];by_cases h:j=k
 ·subst h;rw[Jg rfl,Jg rfl,Jg (by rw[n5];exact hj)]
 ·rw[Jf h,Jf (fun e=>h e.symm),ic];by_cases h2:i=k
  ·subst h2;rw[Jg rfl,Jg rfl,Jg hi]
  ·rw[Jf h2,Jf (fun e=>h2 e.symm)]
theorem asZ (l:List One) (i j:Nat) (x y:One):(swp l i j x y).length=l.length:=by unfold swp;simp
structure Dn (l0 l:List One) (n i0 i:Nat):Prop where
 ge:i0≤i
 len:l.length=l0.length
 perm:l.Perm l0
 rest: ∀ k,n≤k→l[k]? =l0[k]?
 aNR: ∀ p,i0≤p→p≠i→CZ l n p
 up: ∀ p c a b,i0≤p→(i=2*p+1∨i=2*p+2)→(c=2*i+1∨c=2*i+2)→c<n→l[c]? =some a→l[p]? =some b→better a b=false
theorem aIR {l:List One} {n i0:Nat} (h:iM l n (i0+1)):Dn l l n i0 i0 where
 ge:=df _
 len:=rfl
 perm:=ja _
 rest:=fun _ _=>rfl
 aNR:=fun p h1 h2=>h p Z8
 up:=fun p c a b h1 h2=>Z8
theorem aSG {l0 l:List One} {n i0 i:Nat} (h:Dn l0 l n i0 i) (hf:CZ l n i):iM l n i0:=fun p hp=>by
 by_cases e:p=i
 ·subst e;exact hf
 ·exact h.aNR p hp e
theorem alF {l:List One} {i j:Nat} {x y:One} (hi:l[i]? =some x) (hj:l[j]? =some y) (zy:i≠j):(swp l i j x y).Perm l:=by
 rw[List.perm_iff_count];intro z;obtain⟨h1,e1⟩:=aj.1 hi;obtain⟨h2,e2⟩:=aj.1 hj;unfold swp;have zx:j<(l.set i y).length:=by rw[n5];exact h2
 rw[n7 zx,n7 h1];have e3:(l.set i y)[j]=y:=by rw[List.getElem_set_ne zy,e2]
 rw[e3,e1];have c1:x=z→0<l.count z:=fun e=>nf.2 (by rw[←e, ←e1];exact na h1)
 have c2:y=z→0<l.count z:=fun e=>nf.2 (by rw[←e, ←e2];exact na h2)
 by_cases a1:x=z
 ·have p1:=c1 a1;have b1:(x==z)=true:=by simp [a1]
  by_cases a2:y=z
  ·have b2:(y==z)=true:=by simp [a2]
   simp only[b1,b2,if_true];omega
  ·have b2:(y==z)=false:=by simp [a2]
   simp only[b1,b2,if_true,fm,if_false];omega
 ·have b1:(x==z)=false:=by simp [a1]
  by_cases a2:y=z
  ·have p2:=c2 a2;have b2:(y==z)=true:=by simp [a2]
   simp only[b1,b2,if_true,fm,if_false];omega
  ·have b2:(y==z)=false:=by simp [a2]
   simp only[b1,b2,fm,if_false];omega
theorem aeR {l0 l:List One} {n i0 i j:Nat} {x y:One} (h:Dn l0 l n i0 i) (hn:n≤l.length) (hx:l[i]? =some x) (hy:l[j]? =some y) (hj:j=2*i+1∨j=2*i+2) (zw:j<n) (hb:better y x=true) (ho: ∀ c z,(c=2*i+1∨c=2*i+2)→c<n→c≠j→l[c]? =some z→better z y=false):Dn l0 (swp l i j x y) n i0 j:=by
 have zx:i≠j:=Z8
 have zv:i<l.length:=(aj.1 hx).1;have zu:j<l.length:=(aj.1 hy).1;have ha:=aIQ (x:=x) (y:=y) zv zu zx;refine⟨by have:=h.ge;omega,by rw[asZ];exact h.len,(alF hx hy zx).trans h.perm,fun k hk=> ?_,fun p hp zt c a b hc zy h1 h2=> ?_,fun p c a b hp hjp hc zy h1 h2=> ?_⟩
 ·rw[ha,Jf Z8,Jf Z8];exact h.rest k hk
 ·rw[ha] at h1 h2;rw[Jf zt] at h2;by_cases e:p=i
  ·subst e;rw[Jg rfl] at h2;cases h2;by_cases e2:c=j
   ·rw[Jg e2] at h1;cases h1;exact yP hb
   ·rw[Jf e2,Jf Z8] at h1;exact ho c a hc zy e2 h1
  ·rw[Jf e] at h2;rw[Jf Z8] at h1;by_cases e3:c=i
   ·rw[Jg e3] at h1;cases h1;subst e3;exact h.up p j _ _ hp hc hj zw hy h2
   ·rw[Jf e3] at h1;exact h.aNR p hp e c a b hc zy h1 h2
 ·have zr:p=i:=Z8
  subst zr;rw[ha] at h1 h2;rw[Jf zx,Jg rfl] at h2;cases h2;rw[Jf Z8,Jf Z8] at h1;exact h.aNR j (by have:=h.ge;omega) Z8 c _ _ hc zy h1 hy
theorem azI {l:List One} {n:Nat} (hn:n≤l.length) (zy: ∀ a∈l,XQ a) (h:iM l n 0): ∀ (c:Nat) (a b:One),c<n→l[c]? =some a→l[0]? =some b→better a b=false:=by
 intro c;induction c using Nat.strongRecOn with
 |_ c ih=>
  intro a b hc h1 h2;rcases Nat.eq_zero_or_pos c with h0|h0
  ·subst h0;rw[h1] at h2;cases h2;exact alE a
  ·have hp:(c-1)/2<c:=Z8
   obtain⟨z,hz⟩: ∃ z,l[(c-1)/2]? =some z:=⟨_,ak Z8⟩;have e1:=h ((c-1)/2) (fe _) c a z Z8 hc h1 hz;have e2:=ih _ hp z b Z8 hz h2;exact LW (zy a (jg h1)) (zy z (jg hz)) (zy b (jg h2)) e1 e2
theorem azJ (l:List One) (n:Nat):iM l n (n/2):=fun p hp c a b hc hcn=>Z8
theorem aNS {l l1 l2:List One} {m:Nat} {x y:One} (hl:l.length=m+1) (zt: ∀ a∈l,XQ a) (hh:iM l (m+1) 0) (hx:l[0]? =some x) (hy:l[m]? =some y) (h1:l1=if m=0 then l else swp l 0 m x y):iM l1 m 1∧l1.Perm l∧l1.length=m+1∧(iM l2 m 0→l2.Perm l1→l2.length=m+1→l2[m]? =l1[m]? →l2[m]? =some x∧iM l2.dropLast m 0∧l.Perm (x::l2.dropLast)∧ ∀ a∈l2.dropLast,better a x=false):=by
 have zw:l1[m]? =some x∧l1.Perm l∧l1.length=m+1∧ ∀ k,0<k→k<m→l1[k]? =l[k]? :=by
  by_cases hm:m=0
  ·subst hm;rw[Jg rfl] at h1;subst h1;exact⟨hx,ja _,hl,fun k h1 h2=>Z8⟩
  ·rw[Jf hm] at h1;subst h1;have ha:=aIQ (l:=l) (i:=0) (j:=m) (x:=x) (y:=y) Z8 Z8 Z8;refine⟨by rw[ha,Jg rfl],alF hx hy Z8,by rw[asZ];exact hl,fun k h1 h2=>by rw[ha,Jf Z8,Jf Z8]⟩
 obtain⟨g1,g2,g3,g4⟩:=zw;refine⟨fun p hp c a b hc zv e1 e2=> ?_,g2,g3,fun k1 k2 k3 k4=> ?_⟩
 ·rw[g4 c Z8 zv] at e1;rw[g4 p Z8 Z8] at e2;exact hh p (fe _) c a b hc Z8 e1 e2
 ·rw[g1] at k4;have zy:l2=l2.dropLast++[x]:=by
   have zr:l2≠[]:=by intro e;rw[e] at k3;simp at k3
   have:=List.dropLast_concat_getLast zr;rw[List.getLast_eq_getElem] at this;have e:l2[l2.length-1]'Z8=x:=by
    have:=ak (l:=l2) (i:=m) Z8;rw[k4] at this;have e2:l2.length-1=m:=Z8
    simp only[e2];exact (a7 this).symm
   rw[e] at this;exact this.symm
  have hdl:l2.dropLast.length=m:=by rw[List.length_dropLast];omega
  have zu: ∀ k,k<m→l2.dropLast[k]? =l2[k]? :=fun k hk=>by
   rw[zy,List.getElem?_append_left Zq];simp
  have zx:l.Perm (x::l2.dropLast):=by
   refine (g2.symm.trans k2.symm).trans ?_;rw[zy];simp only[List.dropLast_concat];exact List.perm_append_comm
  refine⟨k4,fun p hp c a b hc zv e1 e2=> ?_,zx,fun a ha=> ?_⟩
  ·rw[zu c zv] at e1;rw[zu p Z8] at e2;exact k1 p hp c a b hc zv e1 e2
  ·have hm:a∈l:=zx.mem_iff.2 (List.mem_cons_of_mem _ ha);obtain⟨i,hi⟩:=List.getElem?_of_mem hm;exact azI (Nat.le_of_eq hl.symm) zt hh i a x (by have:=(aj.1 hi).1;omega) hi hx
end pick
namespace sl
open Go.RowKit bO
def WK:TypeDesc→Bool
 | .interface _=>true
 |_=>false
class aNT (P:Program) (t:TypeId):Prop where
 h:(P.underlying t).map WK=some false
class Ptr (P:Program) (t:TypeId) (e:outParam TypeId):Prop where
 h:P.underlying t=some (.pointer e)
class apM (P:Program) (t:TypeId) (name:String) (f:outParam FuncId) (ptr:outParam Bool):Prop where
 h:((P.info? t).bind fun i=>i.methods.find? (·.name==name)).map (fun m=>(m.path.size,m.func))=some (0,some (f,ptr))
 sz: ∃ m,P.types.size=m+1
section
variable {P:Program} {n:Nat} {F:eE} {H R:List Ent} {o:Oper} {x y z:Operand} {v u z':Value} {T:TypeId}
theorem LX [hc:aNT P T] (ho:o.op= .makeInterface T x) (hx:ev F x=some v):Qt P n o F H (.iface T v):=fun a w ha hw=>by
 have h:=hc.h;cases hd:P.underlying T with
 |none=>rw[hd] at h;cases h
 |some d=>
  rw[hd] at h;cases d<;>first|(simp [WK] at h;done)|simp [execOp,ho,Instr.makeInterface,run_underlying hd,ha.eval hx,mw]
theorem azK {A:TypeId} {xt:TypeId} [hc:aNT P A] (ho:o.op= .typeAssert x xt A false) (hx:ev F x=some (.iface A v)):Qt P n o F H v:=fun a w ha hw=>by
 have h:=hc.h;cases hd:P.underlying A with
 |none=>rw[hd] at h;cases h
 |some d=>
  rw[hd] at h;cases d<;>first|(simp [WK] at h;done)|simp [execOp,ho,Instr.typeAssert,run_underlying hd,ha.eval hx,mw]
theorem apN {t:TypeId} {name:String} {f:FuncId} {ptr:Bool} (hr:apM P t name f ptr) (v:Value) (w:World) (k:Nat):(method (P.types.size+k) t v name).run P w=((receiverAt t (.val v) ptr (some ((name.splitOn ".").getLastD name))).run P w).andThen fun r w=> .ok (f,r) w:=by
 have h:=hr.h;obtain⟨m,hm⟩:=hr.sz;obtain⟨q,hq,e⟩:=Option.map_eq_some_iff.1 h;obtain⟨i,hi,hf⟩:=Option.bind_eq_some_iff.1 hq;simp only[de] at e;obtain⟨e1,e2⟩:=e;have e3:q.path= #[]:=Array.eq_empty_of_size_eq_zero e1;rw[hm,show m+1+k=(m+k)+1 by omega];have ht:(typeInfo t).run P w= .ok i w:=by simp [typeInfo,hi]
 unfold method;simp only[ab,ht,aa,hf,e3,e2,follow,ah];rfl
theorem aIS {t e:TypeId} [hp:Ptr P t e] (v:Value) (nm:Option String) (w:World):(receiverAt t (.val v) true nm).run P w= .ok v w:=by
 simp [receiverAt,run_underlying hp.h,Place.get,mw]
theorem aIT {t e by' b:Nat} {tb:TypeId} [hp:Ptr P t e] [ht:Ty P e false 1 by' z'] (nm:String) {w:World} (hb:w.heap[b]? =some (.cells #[v] tb (0,0))):(receiverAt t (.val (aH b 0)) false (some nm)).run P w= .ok v w:=by
 have := lE ht w ⟨b, 0, none⟩ [v] rfl (fun j u hj => by
  rw [addr_add, tT (cs := [v]) hb];simpa using hj) (oH v)
 have hc:(Builtin.ssaWrapNilChk_ #[t] t #[aH b 0,strVal "",strVal nm]).run P w= .ok (aH b 0) w:=rfl;unfold receiverAt;simp only[ab,run_underlying hp.h,aa,Place.get,ah,hc];simp [aH,asAddr,mw,this]
theorem oV {t:TypeId} {name:String} {f:FuncId} {ptr:Bool} [hc:cG P f] [hr:apM P t name f ptr] {recv rv:Value} {args:List Operand} {ts:Array TypeId} {vs:List Value} {C S:List Ent} {Rs:Value→List Ent→Prop} [hX:Xcl Rs] (ho:o.op= .call { callee:= .invoke x name,args:=args.toArray,argTypes:=ts }) (hx:ev F x=some (.iface t recv))
  (hrecv: ∀ w,aG H w→(receiverAt t (.val recv) ptr (some ((name.splitOn ".").getLastD name))).run P w= .ok rv w) (hs:Ct P f (rv::vs) C Rs) (hv:WZ F args=some vs) (p:Lp C H S):cN P n o F H fun v H'=> ∃ H1,Rs v H1∧H'=H1++S:=fun Q a w next ha hw hn=>by
 have he:=nL ha hv;have e1:args.toArray.map a.eval=vs.toArray:=by simpa using he
 have hm: ∀ k,(method (P.types.size+k) t recv name).run P w= .ok (f,rv) w:=fun k=>by rw[apN hr,hrecv w hw];rfl
 unfold Oper.wp;have e2:(#[ni t recv]++vs.toArray)[0]? =some (.iface t recv):=Ja
 have e3:(#[ni t recv]++vs.toArray).extract 1 (#[ni t recv]++vs.toArray).size=vs.toArray:=Ja
 simp only[execOp,ho,resolve,ha.eval hx,invoke,e1,e2,e3,ab,ah,aa,callMethod];have hp:(program).run P w= .ok P w:=Ja
 have e4: #[rv]++vs.toArray=(rv::vs).toArray:=Ja
 simp only[hp,aa,hm,lP,Oper.upon,e4];refine (hs.go _ w (p.ok hw)).mono ?_;rintro e w' ⟨v,H1,rfl,h1,h2⟩;exact hn v _ w' ⟨H1,h1,rfl⟩ (p.back hw (hX.h v H1 h1) h2)
theorem fU {t:TypeId} {name:String} {f:FuncId} {ptr:Bool} [hc:cG P f] [hr:apM P t name f ptr] {recv rv:Value} {args:List Operand} {ts:Array TypeId} {vs:List Value} {C S:List Ent} {u:Value} (ho:o.op= .call { callee:= .invoke x name,args:=args.toArray,argTypes:=ts }) (hx:ev F x=some (.iface t recv))
  (hrecv: ∀ w,aG H w→(receiverAt t (.val recv) ptr (some ((name.splitOn ".").getLastD name))).run P w= .ok rv w) (hs:Ct P f (rv::vs) C fun v H'=>v=u∧H'=[]) (hv:WZ F args=some vs) (p:Lp C H S):cN P n o F H fun v H'=>v=u∧H'=S:=fun Q a w next ha hw hn=>
 oV ho hx hrecv hs hv p Q a w next ha hw fun v H' w' ⟨H1,⟨h1,h2⟩,h3⟩ hw'=>hn v H' w' ⟨h1,by rw[h3,h2];rfl⟩ hw'
theorem iZ {t e by' b:Nat} {tb:TypeId} [hp:Ptr P t e] [ht:Ty P e false 1 by' z'] {nm:String} (p:bQ (box b [v] tb) H R): ∀ w,aG H w→(receiverAt t (.val (aH b 0)) false (some nm)).run P w= .ok v w:=fun w hw=>aIT nm (hw.1 _ p.mem)
theorem azL {t e b:Nat} [hp:Ptr P t e] {nm:Option String}: ∀ w,aG H w→(receiverAt t (.val (aH b 0)) true nm).run P w= .ok (aH b 0) w:=fun w _=>aIS _ nm w
end
end sl
namespace bO
open Go.RowKit
theorem XT {H:Type} {enc:TypeId×Value→H} {P:Program} {W:World} {base b0:Nat} {r:Reach} {t e:TypeId} {v:Value} {d:DataW H} {ps:List MemPlace} {α:Type} (f:α→List Value) (mM:α→Prop) (sized:α→DataW H→Prop) (ht:P.underlying t=some (.slice e)) (sz:Nat) (hsz:P.cellsOf e=sz) (hsz0:0<sz) (dec: ∀ fuel cs x,DataW.trod enc P W base (fun _=>true) true fuel e cs=some x→ ∃ y,cs=f y∧mM y∧sized y x.1) (zm:Value.okWide P W r b0 t v) (hd:DataW.Trod enc P W base (fun _=>true) true t v d ps): ∃ xs:List α,bX W sz v (xs.map f)∧(∀ x∈xs,mM x)∧(d= .nil∧xs=[]∨ ∃ el sp,d= .slice el sp∧el.length=xs.length∧ ∀ x∈xs, ∃ e∈el,sized x e):=by
 obtain⟨a0,len,cap,rfl⟩:=Go.WideShapes.okWide_slice ht zm;obtain⟨fuel,hf⟩:=hd;rcases DataW.trod_slice ht hf with⟨zu,hx⟩|⟨a,len',cap',elems,rest,n,hfu,zu,hx,hb,hl,hm,hlen,zj,_,_⟩
 ·simp [aaa] at zu;obtain⟨rfl,rfl,rfl⟩:=zu;simp only[de] at hx;exact⟨[], .inl ⟨rfl, .inl rfl⟩,Ja, .inl ⟨hx.1,rfl⟩⟩
 ·simp [aaa] at zu;obtain⟨rfl,rfl,rfl⟩:=zu;simp only[de] at hx;have zl: ∀ i,i<len→ ∃ y,mM y∧aOK W a sz i (f y)∧ ∃ e∈elems.map (·.1),sized y e:=by
   intro i hi;have h1:=zj i hi;cases hc:W.cells? base (a.add (i*P.cellsOf e)) (P.cellsOf e) with
   |none=>
    rw[hc] at h1;have h2:elems[i]? =some elems[i]:=ak Z8;rw[h2] at h1;cases h1
   |some cs=>
    rw[hc] at h1;have h2:elems[i]? =some elems[i]:=ak Z8;rw[h2] at h1;obtain⟨y,rfl,hy,hz⟩:=dec _ _ _ h1;rw[hsz] at hc;exact⟨y,hy,cells?_spec hc,_,List.mem_map.2 ⟨elems[i],na _,rfl⟩,hz⟩
  obtain⟨xs,zw,zq⟩:=aeW (R:=fun i y=>aOK W a sz i (f y)∧ ∃ e∈elems.map (·.1),sized y e) len zl;refine⟨xs, ?_,fun x hx=> ?_, .inr ⟨_,_,hx.1,by simp [hlen,zw],fun x hx=> ?_⟩⟩
  ·cases xs with
   |nil=>
    have:len=0:=by simpa using zw.symm
    subst this;exact .inl ⟨rfl, .inr ⟨a,cap,rfl⟩⟩
   |cons x0 xs'=>
    have zt:0<len:=by rw[←zw];simp
    have h0:=(zq 0 zt).2.1;obtain⟨h01,h02⟩:=h0;have zh: ∃ y,(f ((x0::xs')[0]'Ja))[0]? =some y:=⟨_,ak Z8⟩;obtain⟨y0,zg⟩:=zh;have zv:=h02 0 y0 zg;have zr:(a.add (0*sz)).add 0=a:=by simp [Addr.add]
    rw[zr] at zv;have zx:a.spot=none:=by
     unfold World.cell? at zv;split at zv
     ·split at zv
      ·cases zv
      ·rename_i hs;simpa using hs
     ·cases zv
    obtain⟨b,off,spot⟩:=a;simp only at zx;subst zx;refine .inr ⟨b,off,cap,by simp [←zw],by (have h9:=zw;simp at h9 ⊢;omega),hm,Ja,World.block_lt_of_cell? W _ zv, ?_⟩;intro i rr hi;rw[dp] at hi;cases zn:(x0::xs')[i]? with
    |none=>rw[zn] at hi;cases hi
    |some z=>
     rw[zn] at hi;have zf:f z=rr:=by simpa using hi
     subst zf;have zy:i<len:=by rw[←zw];exact (aj.1 zn).1
     have h3:=(zq i zy).2.1;have hz:(x0::xs')[i]'(by rw[zw];exact zy)=z:=(aj.1 zn).2;rw[hz] at h3;refine⟨h3.1,fun j x hj=> ?_⟩;have h4:=h3.2 j x hj;have zk:((⟨b,off,none⟩:Addr).add (i*sz)).add j=⟨b,off+i*sz+j,none⟩:=by
      unfold Addr.add;split<;>split<;>simp_all
     rw[zk] at h4;exact h4
  ·obtain⟨i,hi⟩:=l9.1 hx;have zy:=(aj.1 hi).1;have:=(zq i Z8).1;rw[(aj.1 hi).2] at this;exact this
  ·obtain⟨i,hi⟩:=l9.1 hx;have zy:=(aj.1 hi).1;have:=(zq i Z8).2.2;rw[(aj.1 hi).2] at this;exact this
end bO
