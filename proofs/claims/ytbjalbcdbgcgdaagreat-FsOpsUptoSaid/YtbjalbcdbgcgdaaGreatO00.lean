/- FsOps, packed. -/
import Derived.Test.YtbjalbcdbgcgdaaGreatOQ
import Derived.WalkKit
import Derived.WalkLawsBesides
import Derived.WalkSpells
import Derived.Laws.BitsAllLaws
import Derived.Lib.Hide
import Derived.Lib.BufferRead
import Derived.Lib.Strings
import Derived.Lib.IndexBytes
import Derived.RegionTactic
import Derived.Deep.QuietTactic
import Derived.Deep.RegionWith
import Derived.Deep.DeepCutAuto
import Derived.BigQuiet
import Derived.BigRegion
import Derived.Outline
import Derived.Laws.Rows
import Derived.Laws.CopyRow
import Derived.StillTailTactics
import Derived.Deep.RegionHeld3
import Derived.Deep.AppendLies
import Derived.Deep.RegionLaw
import Derived.ProofKit
import Derived.ChangeArms
import Derived.Lib.AppendZeros
import Derived.Orders
import Derived.IntWalk
import Derived.Maps.AppendAt
import Derived.OrdersHeld
import Derived.Laws.StructEq
import Derived.OwnWalk
import Derived.Laws.Strings2
import Derived.Laws.Strings3
import Derived.Laws.Concat
import Derived.Laws.BytesArg
import Derived.Lib.BufferWrite
import Derived.Test.YtbjalbcdbgcgdaaGreatRows
import Derived.Lib.SliceRun
import Derived.Deep.OwnRows
import Derived.Laws.IdiomStrings
import Derived.Lib.SmallJoins
import Derived.SizedLaws
open Go.Proofs.Tryz renaming prog->lk
open List renaming Pairwise.nil->ft,Perm.refl->ja,Perm.swap->kj,Sublist->kp,all_eq_true->iq,append_assoc->fu,append_nil->ke,append_toArray->jl,cons_append->dw,drop_eq_getElem_cons->bh,drop_of_length_le->fv,drop_zero->gx,eq_nil_of_length_eq_zero->bp,ext_getElem?->ep,filter_append->fo,filter_cons->bw,filter_eq_nil_iff->iy,filter_filter->js,getElem?_append->dr,getElem?_append_right->gz,getElem?_drop->aw,getElem?_eq_getElem->ak,getElem?_eq_none->je,getElem?_eq_some_iff->aj,getElem?_map->dp,getElem?_set->ic,getElem?_take->au,length_append->ae,length_cons->dv,length_drop->bq,length_flatten->jk,length_map->gp,length_nil->gr,length_singleton->gk,length_take->ar,mapM_cons->ki,map_cons->gd,map_nil->gu,map_take->jj,map_toArray->fc,mem_append->ei,mem_append_left->jh,mem_cons->al,mem_cons_of_mem->a8,mem_cons_self->bu,mem_filter->iw,mem_flatten->j5,mem_map->fa,mem_of_getElem?->jg,mem_singleton->eh,nil_append->dz,not_mem_nil->ck,pairwise_append->cu,pairwise_cons->an,replicate->du,set_eq_take_append_cons_drop->fw,size_toArray->dq,sublist_append_left->ik,sublist_append_right->fj,take_add_one->ib,take_append_drop->gl,take_of_length_le->bd
open Nat renaming add_assoc->b9,add_mul->ff,add_zero->fl,beq->gw,ble->gj,ble_eq_true_of_le->jd,blt->ao,div_add_mod->gq,div_lt_iff_lt_mul->eu,eq_of_beq_eq_true->fb,eq_zero_or_pos->jo,le_of_ble_eq_true->ay,le_of_not_lt->il,le_refl->df,le_trans->gm,lt_of_lt_of_le->di,lt_or_ge->ig,min_eq_left->j9,mod_lt->jf,mul_comm->ij,mul_le_mul_right->cr,mul_one->gy,ne_of_gt->ks,one_mul->ix,strongRecOn->j6,sub_self->ku,sub_zero->kr,succ_mul->jn,zero_add->dj,zero_le->fe
open Int renaming le_of_lt->iu,le_refl->jy,toNat_natCast->dc
open Option renaming map_eq_some_iff->dh,map_none->eo,map_some->ej,some.inj->a7,some.injEq->aq
open Prod renaming mk.injEq->de
open UInt8 renaming ofNat->ky
open ByteArray renaming copySlice->k8,ext->ji,extract->lh,size->kh
open Array renaming append_empty->jq,getElem?_eq_none->fy,getElem?_eq_some_iff->dn,getElem?_toList->jc,length_toList->fg,range->jx,replicate->fh
open Bool renaming and_eq_true->ir,false_eq_true->fm,not_false->fp,not_true->ko,or_eq_true->j8
open Classical renaming choose->im,choose_spec->jb
open Go.Result renaming andThen_ok->aa
open Go.Sem renaming run->km,run_bind->ab,run_pure->ah
open Go.Value renaming agg->ld,int->gh,oneCell'->a6,slice->jw,slice.injEq->jt
open Go.IntKind renaming bits->jm,i64->kx,max->jv,min->ju,signed->iz,u32->j0,u64->jz,u8->kz
open Go.Builtin renaming append_->dm,firstCells->fk,lenOf->ia,len_->kt,zeroCells->fq
open Go.World renaming setRow->ie
open Go.Oper renaming upon->bf,wp->bj
open Go.Region renaming binds->jr,free->kv,noSelect->j7,ready->ax,wanted->bc
open Go.Lit renaming int->kg,wf->k9
set_option linter.unusedVariables false
set_option maxRecDepth 100000
set_option maxHeartbeats 8000000
namespace Go.Proofs.YtbjalbcdbgcgdaaGreat
namespace bO
open Go.RowKit
theorem acB (x y:Int):(if y<x then y else x)=min x y:=Z8
theorem OQ (x y:Int):(if x<y then y else x)=max x y:=Z8
theorem DV {k:IntKind} {a b:Int} (h:a=b):Ending.returned (.int k a)= .returned (.int k b):=by rw[h]
theorem nJ {k:IntKind} {a b:Int} (h:a=b):gh k a=gh k b:=by rw[h]
theorem apS {a:Int} (h:(kg .u64 a).wf=true): ∃ n:Nat,a=(n:Int)∧n<18446744073709551616:=by
 simp [k9,ju,jv,iz,jm] at h;exact⟨a.toNat,Z8,Z8⟩
theorem aAI {a:Int} (h:(kg .u8 a).wf=true): ∃ n:Nat,a=(n:Int)∧n<256:=by
 simp [k9,ju,jv,iz,jm] at h;exact⟨a.toNat,Z8,Z8⟩
theorem IV {a:Int} (h:(kg .i64 a).wf=true): -9223372036854775808≤a∧a≤9223372036854775807:=by
 simp [k9,ju,jv,iz,jm] at h;omega
theorem aJK (l:List UInt8):(⟨l.toArray⟩:ByteArray).size=l.length:=by simp [kh]
def kS (P:Program) (t e:TypeId) (size bytes:Nat) (z:Value):Prop:=
 P.underlying t=some (.slice e)∧z.cells.size=size∧0<size∧ ∃ i,P.info? e=some i∧i.zero=some z∧i.size=size∧i.bytes=bytes
theorem BH {P:Program} {t e:TypeId} {size bytes:Nat} {z:Value} (h1:P.underlying t=some (.slice e)) (h2:(P.info? e).map (fun i=>(i.zero,i.size,i.bytes))=some (some z,size,bytes)) (h3:z.cells.size=size) (h4:0<size):kS P t e size bytes z:=by
 obtain⟨i,a,b,c,d⟩:=info_parts h2;exact⟨h1,h3,h4,i,a,b,c,d⟩
theorem alO {P:Program} {w0 w:World} {B:Nat} {t e:TypeId} {bytes:Nat} {z:Value} (hT:kS P t e 1 bytes z) {ops:Array Oper} {rest:List Oper} {o:Oper} {a:Act} {Q:Exit→Act→World→Prop} (zv:o.guard=none) (s x:Operand) (ho:o.op= .call { callee:= .builtin .append,args:= #[s,x],argTypes:= #[t,t] })
  (v u:Value) (n:Nat) (xs:List Value) (hs:a.eval s=v) (hx:a.eval x= .slice (some ⟨w.heap.size,0,none⟩) 1 1)
  (zx:w.ownsRow B e 1 v n xs) (hu:u.oneCell'=true)
  (zy:(n+1)*bytes≤140737488355328) (h63:n+1≤maxLen) (hb:Below B w0 w) (hB:B≤w.heap.size)
  (h: ∀ v' w',w'.ownsRow B e 1 v' (n+1) (xs++[u])→w.grownBy w' v.ownBlock→Below B w0 w'→B≤w'.heap.size→wpList P ops Q rest (a.put o.dst v') w'):
  wpList P ops Q (o::rest) a (w.alloc (.cells #[u] e)):=by
 obtain⟨h1,h2,h3,i,zu,zt,zr,zq⟩:=hT;refine wpList_append_own (w:=w.alloc (.cells #[u] e)) zv s x t ho B e i z 1 bytes h1 zu zt zr zq h2 h3 v n xs hs (zx.alloc _) ⟨w.heap.size,0,none⟩ 1 1 [u] hx Ja ?_ (by simpa using hu) h63 zy (by simp;omega) ?_
 ·intro j y hj
  match j,hj with
  |0,hj=>simp at hj;subst hj;simp [Addr.add]
 ·intro v' w' zn hg _;have zw:w.grownBy w' v.ownBlock:=by
   refine⟨hg.os,hg.tape,hg.output, ?_, ?_⟩
   ·have:=hg.size;simp at this;omega
   ·intro k hk zm;rw[hg.block k (by simp;omega) zm];exact heap_alloc_old w _ hk
  exact h v' w' zn zw (hb.grown zw hB (fun k hk=>(zx.lt k hk).1)) (gm hB zw.size)
theorem aTC {P:Program} {w0 w:World} {B:Nat} {t e:TypeId} {bytes:Nat} {z:Value} (hT:kS P t e 1 bytes z) (hz:z.cells= #[z]) {ops:Array Oper} {rest:List Oper} {o:Oper} {a:Act} {Q:Exit→Act→World→Prop} (hg:o.guard=none) (l c:Operand) (zx:o.op=Op.makeSlice t l c) (kl kc:IntKind) (L C:Int) (n:Nat) (hl:a.eval l= .int kl L) (hc:a.eval c= .int kc C) (hL:L=(n:Int)) (hC:C=(n:Int)) (b2:bytes*n≤281474976710656) (b3:n≤maxLen) (hb:Below B w0 w) (hB:B≤w.heap.size) (h: ∀ g w',w'.ownsRow B e 1 (.slice (some ⟨g,0,none⟩) n n) n (du n z)→w.grownBy w' none→Below B w0 w'→B≤w'.heap.size→g=w.heap.size→wpList P ops Q rest (a.put o.dst (.slice (some ⟨g,0,none⟩) n n)) w'):wpList P ops Q (o::rest) a w:=by
 obtain⟨h1,h2,h3,i,zw,zv,zu,zt⟩:=hT;refine wpList_make_full w hg l c t zx B e i z 1 h1 zw zv zu kl kc L C n hl hc hL hC (by rw[zt];exact b2) b3 hB ?_;intro w' ho zy;refine h _ w' ?_ zy (hb.grown zy hB (fun k hk=>by cases hk)) (gm hB zy.size) rfl;have e1:=toList_madeCells_one z (n*1);rw[gy] at e1;rw[hz,gy,e1] at ho;exact ho
def aZ (l:List UInt8):List Value:=l.map fun b=>gh .u8 (b.toNat:Int)
theorem fV (l:List UInt8) (b:UInt8) (n:Int) (h:n=(b.toNat:Int)):aZ l++[gh .u8 n]=aZ (l++[b]):=by subst h;simp [aZ]
theorem lY {P:Program} {w:World} {B src dst e:TypeId} {v:Value} {n:Nat} {l:List UInt8} (hs:P.underlying src=some (.slice e)) (he:P.underlying e=some (.int .u8)) (hd:P.underlying dst=some .string) (zy:w.ownsRow B e 1 v n (aZ l)):(convert src dst v).run P w= .ok (.string ⟨l.toArray⟩) w:=by
 have hn:n=l.length:=by have:=zy.1;simp [aZ] at this;omega
 subst hn;rcases zy.2 with⟨rfl,h0⟩|⟨g,cap,cur,rfl,hb,hg,hl,hm,hc,ht⟩
 ·have:l=[]:=bp h0;subst this;exact Lib.run_convert_nil_bytes w src dst e 0 hs he hd
 ·refine run_convert_bytes_back w src dst e ⟨g,0,none⟩ cap l hs he hd ?_;intro j hj;refine zy.cells (g:=g) rfl j _ ?_;simp [aZ,hj]
structure BW (w0:World) where
 w:World
 h:Below w0.heap.size w0 w
instance (w0:World):Nonempty (BW w0):=⟨⟨w0,Below.refl _ _⟩⟩
theorem mK {P:Program} {id:Nat} {Q:Exit→Act→World→Prop} {a:Act} {w:World} {l:List Oper} (hm:P.follows .mixedOrders=true) (hB:Region.lexB .any l.toArray=true) (h:wpQuiet P l.toArray (fun w'=> ∃ x:BW w,w'=x.w) (fun a'=> ∀ w',(∃ x:BW w,w'=x.w)→Q .normal a' w') l a):(Code.region id l.toArray true).wp P Q a w:=
 wp_region_quiet (C:=fun w'=> ∃ x:BW w,w'=x.w) hm hB ⟨⟨_,(Below.refl _ _).drew⟩,rfl⟩ (by simpa using h)
theorem WU {w w':World} {B e size:Nat} {v:Value} {n:Nat} {xs:List Value} (h:w.ownsRow B e size v n xs) (hb:Below w.heap.size w w'):w'.ownsRow B e size v n xs:=by
 refine⟨h.1, ?_⟩;rcases h.2 with hn|⟨g,cap,cur,rfl,zx,zy,rest⟩
 ·exact .inl hn
 ·exact .inr ⟨g,cap,cur,rfl,zx,by rw[hb.block g (dn.1 zy).1];exact zy,rest⟩
end bO
namespace bO
open Go.RowKit
theorem QA {P:Program} (w:World) (t:TypeId) (z v:Value) (hz:(P.info? t).map (·.zero)=some (some z)):(Instr.alloc t true v).run P w= .ok (.pointer (some ⟨w.heap.size,0,none⟩)) (w.alloc (.cells z.cells t)):=by
 cases hq:P.info? t with
 |none=>simp [hq] at hz
 |some i=>
  have hi:i.zero=some z:=by simpa [hq] using hz
  simp [Instr.alloc,zeroValue,typeInfo,hq,hi,newVar,newRow,ab]
theorem vD {P:Program} {w:World} {ops:Array Oper} {rest:List Oper} {o:Oper} {a:Act} {Q:Exit→Act→World→Prop} (zy:o.guard=none) (t:TypeId) (ho:o.op= .alloc t) (z:Value) (hz:(P.info? t).map (·.zero)=some (some z)) (h:wpList P ops Q rest (a.put o.dst (.pointer (some ⟨w.heap.size,0,none⟩))) (w.alloc (.cells z.cells t))):wpList P ops Q (o::rest) a w:=by
 refine wpList_plain zy fun K hK=> ?_
 unfold bj execOp;simp only[ho,ab,ah,aa,QA w t z _ hz];exact hK _ _ h
theorem wpList_store_row {P:Program} {w:World} {ops:Array Oper} {rest:List Oper} {o:Oper} {a:Act} {Q:Exit→Act→World→Prop} (zy:o.guard=none) (ty:TypeId) (x y:Operand) (ho:o.op= .store ty x y) (g:Nat) (hx:a.eval x= .pointer (some ⟨g,0,none⟩)) (t:TypeId) (cur cs:Array Value) (hg:w.heap[g]? =some (.cells cur t (0,0))) (hy:a.eval y= .agg cs) (hsz:cs.size=cur.size) (hi:(P.info? ty).map (·.size)=some cs.size) (h1: ∀ v∈cs.toList,v.oneCell'=true) (h:wpList P ops Q rest (a.put o.dst undef) (w.setRow g cs)):wpList P ops Q (o::rest) a w:=by
 refine wpList_plain zy fun K hK=> ?_
 cases hq:P.info? ty with
 |none=>simp [hq] at hi
 |some i=>
  have hs:i.size=cs.size:=by simpa [hq] using hi
  have hst:=run_storeCells_at P g 0 t cs.toList 0 cur w hg (by simp [hsz]) h1;have e:(cur.toList.take (0+0)++cs.toList++cur.toList.drop (0+0+cs.toList.length)).toArray=cs:=by
   simp [hsz];rw[fv Ja];simp
  rw[e] at hst;unfold bj execOp;simp only[ho,hx,hy,Instr.storeAt,Instr.sureAddr,ab,ah,aa,storeVar,sizeOf,typeInfo,Value.cells];simp [hq,hs,ab,hst,aa,bf];exact hK _ _ h
theorem DX {B:Nat} {w0 w:World} (h:Below B w0 w) {g:Nat} (hg:B≤g) (cs:Array Value):Below B w0 (w.setRow g cs):=
 h.trans ⟨rfl,rfl,rfl,by simp [ie],fun k hk=>setRow_other w g k cs Z8⟩
end bO
namespace bO
open Go.RowKit
theorem atG {P:Program} {w0 w:World} {B:Nat} {t e:TypeId} {bytes:Nat} {z:Value} (hT:kS P t e 1 bytes z) {ops:Array Oper} {o:Oper} {a:Act} {K:Act→World→Prop} {Q:Exit→Act→World→Prop} {E:Prop} (zv:o.guard=none) (s x:Operand) (ho:o.op= .call { callee:= .builtin .append,args:= #[s,x],argTypes:= #[t,t] })
  (v u:Value) (n:Nat) (xs:List Value) (hs:a.eval s=v) (ad:Addr) (hx:a.eval x= .slice (some ad) 1 1) (zx:w.cell? ad=some u)
  (zw:w.ownsRow B e 1 v n xs) (hu:u.oneCell'=true)
  (zy:(n+1)*bytes≤140737488355328) (h63:n+1≤maxLen) (hb:Below B w0 w) (hB:B≤w.heap.size)
  (h: ∀ v' w',w'.ownsRow B e 1 v' (n+1) (xs++[u])→w.grownBy w' v.ownBlock→Below B w0 w'→B≤w'.heap.size→K (a.put o.dst v') w'):
  if bc o (yielded ops a.tmps)=true then bj P o a w K Q else E:=by
 have hw:bc o (yielded ops a.tmps)=true:=by simp [bc,zv]
 rw[Jg hw];obtain⟨h1,h2,h3,i,zu,zt,zr,zq⟩:=hT;refine wp_append_own w s x t ho B e i z 1 bytes h1 zu zt zr zq h2 h3 v n xs hs zw ad 1 1 [u] hx Ja ?_ (by simpa using hu) h63 zy hB ?_
 ·intro j y hj
  match j,hj with
  |0,hj=>simp at hj;subst hj;simpa [Addr.add] using zx
 ·intro v' w' zn hg _;exact h v' w' zn hg (hb.grown hg hB (fun k hk=>(zw.lt k hk).1)) (gm hB hg.size)
end bO
namespace bO
open Go.RowKit
theorem atH {w:World} {B e:Nat} {v:Value} {n:Nat} {xs:List Value} (h:w.ownsRow B e 1 v (n+1) xs): ∃ g cap,v= .slice (some ⟨g,0,none⟩) (n+1) cap∧B≤g∧g<w.heap.size:=by
 rcases h.2 with⟨_,h0⟩|⟨g,cap,cur,rfl,hb,hg,_⟩
 ·omega
 ·exact⟨g,cap,rfl,hb,(dn.1 hg).1⟩
theorem QB {P:Program} {w0 w:World} {B:Nat} {t e:TypeId} {bytes:Nat} {z:Value} (hT:kS P t e 1 bytes z) {ops:Array Oper} {o:Oper} {a:Act} {K:Act→World→Prop} {Q:Exit→Act→World→Prop} {E:Prop} (zv:o.guard=none) (s x:Operand) (ho:o.op= .call { callee:= .builtin .append,args:= #[s,x],argTypes:= #[t,t] })
  (v u:Value) (n:Nat) (xs:List Value) (hs:a.eval s=v) (ad:Addr) (hx:a.eval x= .slice (some ad) 1 1) (zx:w.cell? ad=some u)
  (zw:w.ownsRow B e 1 v n xs) (hu:u.oneCell'=true)
  (zy:(n+1)*bytes≤140737488355328) (h63:n+1≤maxLen) (hb:Below B w0 w) (hB:B≤w.heap.size)
  (h: ∀ g cap w',w'.ownsRow B e 1 (.slice (some ⟨g,0,none⟩) (n+1) cap) (n+1) (xs++[u])→w.grownBy w' v.ownBlock→Below B w0 w'→B≤g→g<w'.heap.size→K (a.put o.dst (.slice (some ⟨g,0,none⟩) (n+1) cap)) w'):
  if bc o (yielded ops a.tmps)=true then bj P o a w K Q else E:=
 atG hT zv s x ho v u n xs hs ad hx zx zw hu zy h63 hb hB fun v' w' h1 h2 h3 _=>by
  obtain⟨g,cap,rfl,h5,h6⟩:=atH h1;exact h g cap w' h1 h2 h3 h5 h6
end bO
namespace bO
open Go.RowKit
def bX (w:World) (sz:Nat) (v:Value) (rows:List (List Value)):Prop:=
 (rows=[]∧(v= .slice none 0 0∨ ∃ a cap,v= .slice (some a) 0 cap))∨
 ∃ b off cap,v= .slice (some ⟨b,off,none⟩) rows.length cap∧rows.length≤cap∧cap≤maxLen∧0<rows.length∧b<w.heap.size∧
  ∀ i r,rows[i]? =some r→r.length=sz∧ ∀ j x,r[j]? =some x→w.cell? ⟨b,off+i*sz+j,none⟩=some x
theorem bX.below {w w':World} {sz:Nat} {v:Value} {rows:List (List Value)} (h:bX w sz v rows) {B:Nat} (hB:w.heap.size≤B) (hb:Below B w w'):bX w' sz v rows:=by
 rcases h with h|⟨b,off,cap,h1,h2,h3,h4,h5,h6⟩
 ·exact .inl h
 ·refine .inr ⟨b,off,cap,h1,h2,h3,h4,di h5 hb.size,fun i r hr=>⟨(h6 i r hr).1,fun j x hx=> ?_⟩⟩;rw[hb.cell (p:=⟨b,off+i*sz+j,none⟩) (di h5 hB)];exact (h6 i r hr).2 j x hx
theorem cells?_spec {w:World} {base:Nat} {a:Addr} {n:Nat} {cs:List Value} (h:w.cells? base a n=some cs):cs.length=n∧ ∀ j x,cs[j]? =some x→w.cell? (a.add j)=some x:=by
 unfold World.cells? at h;split at h
 ·have h2: ∀ (l:List Nat) (cs:List Value),l.mapM (fun i=>w.cell? (a.add i))=some cs→cs.length=l.length∧ ∀ (j:Nat) (x:Value),cs[j]? =some x→ ∃ i:Nat,l[j]? =some i∧w.cell? (a.add i)=some x:=by
   intro l;induction l with
   |nil=>intro cs h;simp at h;subst h;simp
   |cons i l ih=>
    intro cs h;rw[ki] at h;cases hi:w.cell? (a.add i) with
    |none=>simp [hi] at h
    |some y=>
     cases hr:l.mapM (fun i=>w.cell? (a.add i)) with
     |none=>simp [hi,hr] at h
     |some ys=>
      simp [hi,hr] at h;subst h;have:=ih ys hr;refine⟨by simp [this.1], ?_⟩;intro j x hj;cases j with
      |zero=>simp at hj;subst hj;exact⟨i,rfl,hi⟩
      |succ j=>simp at hj ⊢;exact this.2 j x hj
  have:=h2 _ _ h;refine⟨by simpa using this.1, ?_⟩;intro j x hj;obtain⟨i,h3,h4⟩:=this.2 j x hj;have:i=j:=by
   have hlt:=(aj.1 h3).1;rw[List.getElem?_range (by simpa using hlt)] at h3;exact (a7 h3).symm
  subst this;exact h4
 ·cases h
def aOK (W:World) (a:Addr) (sz i:Nat) (row:List Value):Prop:=row.length=sz∧ ∀ (j:Nat) (x:Value),row[j]? =some x→W.cell? ((a.add (i*sz)).add j)=some x
theorem aeW {α:Type} {mM:α→Prop} {R:Nat→α→Prop}: ∀ (n:Nat),(∀ i,i<n→ ∃ y,mM y∧R i y)→ ∃ xs:List α, ∃ h:xs.length=n, ∀ i (hi:i<n),mM (xs[i]'(by omega))∧R i (xs[i]'(by omega)):=by
 intro n;induction n with
 |zero=>intro _;exact⟨[],rfl,fun i hi=>Z8⟩
 |succ n ih=>
  intro h;obtain⟨xs,hl,zy⟩:=ih (fun i hi=>h i Z8);obtain⟨y,hy⟩:=h n Z8;refine⟨xs++[y],by simp [hl],fun i hi=> ?_⟩;rcases ig i n with h1|h1
  ·have e:(xs++[y])[i]'(by simp;omega)=xs[i]'Z8:=List.getElem_append_left Z8;rw[e];exact zy i h1
  ·have zx:i=n:=Z8
   subst zx;have e:(xs++[y])[i]'(by simp;omega)=y:=by rw[List.getElem_append_right Z8];simp [hl]
   rw[e];exact hy
end bO
namespace bO
open Go.RowKit
theorem BI (w:World) (r:Option Nat):w.grownBy w r:=⟨rfl,rfl,rfl,df _,fun _ _ _=>rfl⟩
theorem sE {w w1 w2:World} {r:Option Nat} (h:w.grownBy w1 r) (k:w1.grownBy w2 r):w.grownBy w2 r:=
 ⟨k.os.trans h.os,k.tape.trans h.tape,k.output.trans h.output,gm h.size k.size,fun i hi hn=>(k.block i (di hi h.size) hn).trans (h.block i hi hn)⟩
theorem atI {w w1:World} {A:Nat} (h:w.grownBy w1 (some A)) (j:Nat) (v:Value):w.grownBy (w1.setCell ⟨A,j,none⟩ v) (some A):=
 have k:=(Below.refl 0 w1).setCell (p:=⟨A,j,none⟩) (fe _) v
 ⟨k.os.trans h.os, k.tape.trans h.tape, k.output.trans h.output, gm h.size k.size, fun i hi hn => by
  rw [heap_setCell_other _ _ _ _ (by intro e; apply hn; exact congrArg some e)]; exact h.block i hi hn⟩
theorem alP {w w1:World} {r:Option Nat} (h:w.grownBy w1 r):w.grownBy w1.drew r:=⟨h.os,h.tape,h.output,h.size,h.block⟩
theorem bX.view {w:World} {sz:Nat} {v:Value} {rows:List (List Value)} (h:bX w sz v rows): ∃ q cap b off,v= .slice q rows.length cap∧(∀ k,k<rows.length→q=some ⟨b,off,none⟩∧b<w.heap.size)∧ ∀ i r,rows[i]? =some r→ ∀ j x,r[j]? =some x→w.cell? ⟨b,off+i*sz+j,none⟩=some x:=by
 rcases h with⟨rfl,hv⟩|⟨b,off,cap,rfl,hcap,hmax,hpos,zx,zy⟩
 ·rcases hv with rfl|⟨a,cap,rfl⟩
  ·exact⟨none,0,0,0,rfl,fun k hk=>by simp at hk,fun i r hr=>by simp at hr⟩
  ·exact⟨some a,cap,0,0,rfl,fun k hk=>by simp at hk,fun i r hr=>by simp at hr⟩
 ·exact⟨_,cap,b,off,rfl,fun _ _=>⟨rfl,zx⟩,fun i r hr=>(zy i r hr).2⟩
theorem take_one {α:Type} {xs:List α} {k:Nat} {p:α} (hp:xs[k]? =some p):xs.take (k+1)=xs.take k++[p]:=by
 rw[ib,hp];rfl
theorem yR {W w w':World} (h:Below W.heap.size W w) (hg:w.grownBy w' none):Below W.heap.size W w':=
 h.trans ⟨hg.os,hg.tape,hg.output,hg.size,fun k hk=>hg.block k (di hk h.size) Ja⟩
theorem aAJ {w:World} {xs:Array Value} {e n j:Nat} {v:Value} (h:n=w.heap.size) (hx:xs[j]? =some v):(w.alloc (.cells xs e)).cell? ⟨n,j,none⟩=some v:=by
 subst h;rw[cell_of_row _ _ _ _ _ _ (heap_alloc_new _ _)];exact hx
theorem nK {w w':World} (h:Below w.heap.size w w'):w.grownBy w' none:=⟨h.os,h.tape,h.output,h.size,fun k hk _=>h.block k hk⟩
end bO
namespace bO
open Go.RowKit
def flat {α:Type} (f:α→List Value) (xs:List α):List Value:=(xs.map f).flatten
theorem lZ {α:Type} (f:α→List Value) (sz:Nat) (hf: ∀ x,(f x).length=sz): ∀ xs:List α,(flat f xs).length=xs.length*sz:=by
 intro xs;induction xs with
 |nil=>simp [flat]
 |cons x xs ih=>
  have:flat f (x::xs)=f x++flat f xs:=rfl;rw[this,ae,ih,hf,dv,jn,Nat.add_comm]
theorem qD {α:Type} (f:α→List Value) (sz:Nat) (hf: ∀ x,(f x).length=sz): ∀ (xs:List α) (i:Nat) (x:α),xs[i]? =some x→ ∀ (j:Nat) (y:Value),(f x)[j]? =some y→(flat f xs)[i*sz+j]? =some y:=by
 intro xs;induction xs with
 |nil=>intro i x h;simp at h
 |cons a xs ih=>
  intro i x h j y hj;have e:flat f (a::xs)=f a++flat f xs:=rfl;have zy:=(aj.1 hj).1;rw[hf] at zy;rw[e];cases i with
  |zero=>
   simp at h;subst h;rw[Nat.zero_mul,dj,List.getElem?_append_left (by rw[hf];exact zy)];exact hj
  |succ i=>
   rw[gz (by rw[hf,jn];omega),hf,jn,show i*sz+sz+j-sz=i*sz+j from by omega];exact ih i x (by simpa using h) j y hj
theorem vE {w:World} {B e sz:Nat} {v:Value} {α:Type} {xs:List α} {f:α→List Value} {n:Nat} (hf: ∀ x,(f x).length=sz) (hl:n=xs.length) (h:w.ownsRow B e sz v n (flat f xs)):bX w sz v (xs.map f):=by
 subst hl;rcases h.2 with⟨rfl,h0⟩|⟨g,cap,cur,rfl,hb,hg,h1,h2,h3,h4⟩
 ·left;exact⟨by simpa using h0, .inl rfl⟩
 ·by_cases h0:xs.length=0
  ·left;exact⟨by simpa using h0, .inr ⟨_,cap,by rw[h0]⟩⟩
  ·right;refine⟨g,0,cap,Ja,by simpa using h1,h2,by simp;omega,(dn.1 hg).1, ?_⟩;intro i r hr;rw[dp] at hr;obtain⟨x,hx,rfl⟩:=dh.1 hr;refine⟨hf x, ?_⟩;intro j y hy;have zy:some g=(jw (some ⟨g,0,none⟩) xs.length cap).ownBlock:=rfl;have:=h.cells zy.symm (i*sz+j) y (qD f sz hf xs i x hx j y hy);have ea:(⟨g,0,none⟩:Addr).add (i*sz+j)=⟨g,i*sz+j,none⟩:=by unfold Addr.add;split<;>simp_all
   rw[ea] at this;simpa using this
end bO
namespace bO
open Go.RowKit
theorem wN {P:Program} {w:World} {t e ty:TypeId} {sz bytes:Nat} {z:Value} (hT:kS P t e sz bytes z) {B n:Nat} {v:Value} {xs:List Value} (zy:w.ownsRow B e sz v n xs):(dm #[t,t] ty #[v, .slice none 0 0]).run P w= .ok v w:=by
 obtain⟨h1,h2,h3,i,zx,hi2,hi3,hi4⟩:=hT;rcases zy.2 with⟨rfl,h0⟩|⟨g,cap,cur,rfl,hb,hg,hn,_⟩
 ·simp [dm,run_underlying h1,sizeOf,typeInfo,zx,ia,fk]
 ·simp [dm,run_underlying h1,sizeOf,typeInfo,zx,ia,fk,hn,storeCells]
def Room (v:Value) (T:Nat):Prop:=(v= .slice none 0 0∧T=0)∨ ∃ g n C,v= .slice (some ⟨g,0,none⟩) n C∧T≤C
theorem aTD {P:Program} {w0 w:World} {B:Nat} {t e:TypeId} {sz bytes:Nat} {z:Value} (hT:kS P t e sz bytes z) {ops:Array Oper} {rest:List Oper} {o:Oper} {a:Act} {Q:Exit→Act→World→Prop} (zh:o.guard=none) (s x:Operand) (ho:o.op= .call { callee:= .builtin .append,args:= #[s,x],argTypes:= #[t,t] })
  {α:Type} (f:α→List Value) (hf: ∀ y,(f y).length=sz) (hf1: ∀ y, ∀ u∈f y,u.oneCell'=true)
  (v u:Value) (n T:Nat) (xs:List Value) (ys:List α) (hs:a.eval s=v) (hx:a.eval x=u)
  (zy:w.ownsRow B e sz v n xs) (zx:Room v T) (hnT:n+ys.length≤T) (zg:bX w sz u (ys.map f)) (hb:Below B w0 w) (hB:B≤w.heap.size)
  (h: ∀ v' w',w'.ownsRow B e sz v' (n+ys.length) (xs++flat f ys)→Room v' T→Below B w0 w'→B≤w'.heap.size→wpList P ops Q rest (a.put o.dst v') w'):
  wpList P ops Q (o::rest) a w:=by
 by_cases h0:ys=[]
 ·subst h0;have zm: ∀ ty,(dm #[t,t] ty #[v,u]).run P w= .ok v w:=by
   intro ty;rcases zg with⟨_,rfl|⟨ad,cap,rfl⟩⟩|⟨b,off,cap,_,_,_,zw,_⟩
   ·exact wN hT zy
   ·obtain⟨h1,h2,h3,i,zn,z8,zv,z7⟩:=hT;rcases zy.2 with⟨rfl,h0⟩|⟨g,cap,cur,rfl,hb,hg,hn,_⟩
    ·simp [dm,run_underlying h1,sizeOf,typeInfo,zn,ia,fk,loadCells,loadCellsFrom]
    ·simp [dm,run_underlying h1,sizeOf,typeInfo,zn,ia,fk,hn,storeCells,loadCells,loadCellsFrom]
   ·simp at zw
  refine Lib.wpList_append_run w zh s x t t ho _ _ hs hx _ _ (zm _) ?_;exact h v w (by simpa [flat] using zy) zx hb hB
 ·have zw:0<ys.length:=List.length_pos_iff.2 h0;obtain⟨h1,h2,h3,i,zn,z8,zv,z7⟩:=hT;rcases zg with⟨h9,_⟩|⟨b,off,cp,rfl,_,_,_,hblk,zu⟩
  ·simp at h9;exact absurd h9 h0
  ·simp only[gp] at hx;rcases zx with⟨_,hT0⟩|⟨g',n',C,hv,yz⟩
   ·omega
   ·rcases zy.2 with⟨yx,_⟩|⟨g,cap,cur,rfl,yv,hg,hnc,yu,yt,zt⟩
    ·rw[yx] at hv;simp at hv
    ·have yr:C=cap:=by simp at hv;omega
     subst yr;have zr: ∀ j y,(flat f ys)[j]? =some y→w.cell? ((⟨b,off,none⟩:Addr).add j)=some y:=by
      intro j y hj;have zf:=(aj.1 hj).1;rw[lZ f sz hf] at zf;have hi:j/sz<ys.length:=(eu h3).2 zf;have hm:j%sz<sz:=jf _ h3;obtain⟨y0,ze⟩: ∃ y0,ys[j/sz]? =some y0:=⟨_,ak hi⟩;obtain⟨u,hu⟩: ∃ u,(f y0)[j%sz]? =some u:=⟨_,ak (by rw[hf];exact hm)⟩;have zb:=qD f sz hf ys (j/sz) y0 ze (j%sz) u hu;have za:j/sz*sz+j%sz=j:=by rw[ij];exact gq j sz
      rw[za,hj] at zb;have yp:=a7 zb;subst yp;have zq:=(zu (j/sz) (f y0) (by rw[dp,ze];rfl)).2 (j%sz) y hu;have ea:(⟨b,off,none⟩:Addr).add j=⟨b,off+j,none⟩:=by unfold Addr.add;split<;>simp_all
      rw[ea, ←za, ←b9];exact zq
     have zl: ∀ u∈flat f ys,u.oneCell'=true:=by
      intro u hu;unfold flat at hu;obtain⟨l,hl,yo⟩:=j5.1 hu;obtain⟨y,_,rfl⟩:=fa.1 hl;exact hf1 y u yo
     have zk:(flat f ys).length=ys.length*i.size:=by rw[lZ f sz hf,zv]
     have zj:n*i.size+(flat f ys).length≤cur.size:=by rw[zk,yt,zv, ←ff];exact cr _ Z8
     have hr:=run_append_room (P:=P) w t o.type e i h1 zn g n C cur hg ⟨b,off,none⟩ ys.length cp (flat f ys) zk zr zl Z8 zj;have hlen:(xs++flat f ys).length=(n+ys.length)*sz:=by rw[ae,zy.1,zk,zv,ff]
     refine Lib.wpList_append_run w zh s x t t ho _ _ hs hx _ _ hr ?_;refine h _ _ ⟨hlen, .inr ⟨g,C,_,rfl,yv,setRow_heap w g cur _ e _ hg,Z8,yu, ?_, ?_⟩⟩ (.inr ⟨g,_,C,rfl,yz⟩) ?_ ?_
     ·simp only[dq,ae,ar,bq,fg];omega
     ·rw[←hlen];simp only[zv];rw[zt];exact List.take_left
     ·exact hb.trans ⟨rfl,rfl,rfl,by simp [ie],fun k hk=>setRow_other w g k _ Z8⟩
     ·simpa [ie] using hB
theorem alQ {w:World} {e sz n:Nat} {z:Value} (hz:z.cells.size=sz) (h63:n≤maxLen):(w.drew.alloc (.cells (fq z.cells n++fq z.cells (grownCap w n 0 e-n)) e)).ownsRow w.heap.size e sz (.slice (some ⟨w.heap.size,0,none⟩) 0 (grownCap w n 0 e)) 0 []:=by
 have hge := grownCap_ge w n 0 e;have := World.ownsRow_made (base := w.heap.size) (e := e) (size := sz) w.drew (fq z.cells n ++ fq z.cells (grownCap w n 0 e - n)) (grownCap w n 0 e) (df _) (grownCap_le_maxLen w n 0 e h63) (by
  rw [Array.size_append, size_zeroCells, size_zeroCells, hz, ← ff];congr 1;omega)
 exact this
end bO
namespace bO
end bO
namespace sl
open Go.RowKit bO
structure Ent where
 jF:Bool
 lD:Nat→Prop
 holds:World→Prop
 lt: ∀ {w b},holds w→lD b→b<w.heap.size
 keep: ∀ {w w':World},holds w→w'.os=w.os→w'.tape=w.tape→w'.output=w.output→w.heap.size≤w'.heap.size→(∀ b,lD b→w'.heap[b]? =w.heap[b]?)→holds w'
def QC (e f:Ent):Prop:=(e.jF=true∨f.jF=true)→ ∀ b,e.lD b→ ¬ f.lD b
theorem QC.symm {e f:Ent} (h:QC e f):QC f e:=fun hx b h1 h2=>h hx.symm b h2 h1
def aG (H:List Ent) (w:World):Prop:=(∀ e∈H,e.holds w)∧H.Pairwise QC
structure oB (S:Nat→Prop) (w w':World):Prop where
 os:w'.os=w.os
 tape:w'.tape=w.tape
 output:w'.output=w.output
 size:w.heap.size≤w'.heap.size
 block: ∀ b,b<w.heap.size→ ¬ S b→w'.heap[b]? =w.heap[b]?
theorem oB.refl (S:Nat→Prop) (w:World):oB S w w:=⟨rfl,rfl,rfl,df _,fun _ _ _=>rfl⟩
theorem Ent.aeX {e:Ent} {S:Nat→Prop} {w w':World} (h:e.holds w) (m:oB S w w') (hd: ∀ b,e.lD b→ ¬ S b):e.holds w':=
 e.keep h m.os m.tape m.output m.size fun b hb=>m.block b (e.lt h hb) (hd b hb)
theorem aG.perm {H H':List Ent} {w:World} (p:H.Perm H') (h:aG H w):aG H' w:=
 ⟨fun e he=>h.1 e (p.mem_iff.2 he),(p.pairwise_iff (fun {a b}=>QC.symm)).1 h.2⟩
theorem aG.sub {H H':List Ent} {w:World} (p:H'.Sublist H) (h:aG H w):aG H' w:=
 ⟨fun e he=>h.1 e (p.subset he),h.2.sublist p⟩
theorem aG.tail {e:Ent} {H:List Ent} {w:World} (h:aG (e::H) w):aG H w:=h.sub (List.sublist_cons_self _ _)
theorem aG.head {e:Ent} {H:List Ent} {w:World} (h:aG (e::H) w):e.holds w:=h.1 e bu
theorem aG.drew {H:List Ent} {w:World} (h:aG H w):aG H { w with drawn:=w.drawn+1 }:=
 ⟨fun e he=>e.keep (h.1 e he) rfl rfl rfl (df _) fun _ _=>rfl,h.2⟩
theorem aeY {H:List Ent} (h:H.Pairwise QC) {e f:Ent} (he:e∈H) (hf:f∈H) (zy:e≠f):QC e f:=by
 induction H with
 |nil=>cases he
 |cons g H ih=>
  have hp:=an.1 h;rcases al.1 he with rfl|he
  ·rcases al.1 hf with rfl|hf
   ·exact absurd rfl zy
   ·exact hp.1 f hf
  ·rcases al.1 hf with zx|hf
   ·rw[zx];exact (hp.1 e he).symm
   ·exact ih hp.2 he hf
theorem aG.qO {e e':Ent} {H:List Ent} {w w':World} (h:aG (e::H) w) (he:e.jF=true) (hm:oB e.lD w w') (hh:e'.holds w') (hf: ∀ b,e'.lD b→e.lD b∨w.heap.size≤b):aG (e'::H) w':=by
 have hp:=an.1 h.2;refine⟨fun f zy=> ?_,an.2 ⟨fun f zy _ b h1 h2=> ?_,hp.2⟩⟩
 ·rcases al.1 zy with rfl|zy
  ·exact hh
  ·exact Ent.aeX (h.1 f (a8 _ zy)) hm fun b hb zx=>hp.1 f zy (.inl he) b zx hb
 ·rcases hf b h1 with h3|h3
  ·exact hp.1 f zy (.inl he) b h3 h2
  ·exact absurd (f.lt (h.1 f (a8 _ zy)) h2) Z8
theorem aG.new {e':Ent} {H:List Ent} {w w':World} (h:aG H w) (hm:oB (fun _=>False) w w') (hh:e'.holds w') (hf: ∀ b,e'.lD b→w.heap.size≤b):aG (e'::H) w':=by
 refine⟨fun f zy=> ?_,an.2 ⟨fun f zy _ b h1 h2=> ?_,h.2⟩⟩
 ·rcases al.1 zy with rfl|zy
  ·exact hh
  ·exact Ent.aeX (h.1 f zy) hm fun b hb zx=>zx
 ·exact absurd (f.lt (h.1 f zy) h2) (by have:=hf b h1;omega)
theorem aG.aOL {H:List Ent} {w w':World} (h:aG H w) (hm:oB (fun _=>False) w w'):aG H w':=
 ⟨fun f zy=>Ent.aeX (h.1 f zy) hm fun b hb zx=>zx,h.2⟩
theorem aG.shared {e':Ent} {H:List Ent} {w:World} (h:aG H w) (he:e'.jF=false) (hh:e'.holds w) (hf: ∀ b,e'.lD b→ ∃ e∈H,e.jF=false∧e.lD b):aG (e'::H) w:=by
 refine⟨fun f zy=> ?_,an.2 ⟨fun f zy hx b h1 h2=> ?_,h.2⟩⟩
 ·rcases al.1 zy with rfl|zy
  ·exact hh
  ·exact h.1 f zy
 ·obtain⟨g,hg,zw,zv⟩:=hf b h1;rcases hx with hx|hx
  ·rw[he] at hx;cases hx
  ·by_cases zx:g=f
   ·subst zx;rw[zw] at hx;cases hx
   ·exact (aeY h.2 hg zy zx) (.inr hx) b zv h2
theorem aG.alR {e e':Ent} {H:List Ent} {w:World} (h:aG (e::H) w) (hx:e'.jF=true→e.jF=true) (hh:e'.holds w) (hf: ∀ b,e'.lD b→e.lD b):aG (e'::H) w:=by
 have hp:=an.1 h.2;refine⟨fun f zy=> ?_,an.2 ⟨fun f zy zx b h1 h2=>hp.1 f zy (zx.imp hx id) b (hf b h1) h2,hp.2⟩⟩;rcases al.1 zy with rfl|zy
 ·exact hh
 ·exact h.1 f (a8 _ zy)
inductive bQ (e:Ent):List Ent→List Ent→Prop
 |here {H}:bQ e (e::H) H
 |there {f H R}:bQ e H R→bQ e (f::H) (f::R)
theorem bQ.perm {e:Ent} {H R:List Ent} (p:bQ e H R):H.Perm (e::R):=by
 induction p with
 |here=>exact ja _
 |there _ ih=>exact (ih.cons _).trans (kj _ _ _)
theorem bQ.mem {e:Ent} {H R:List Ent} (p:bQ e H R):e∈H:=p.perm.mem_iff.2 bu
inductive kT:List Ent→List Ent→List Ent→Prop
 |nil {H S}:kp S H→kT [] H S
 |out {e C H R S}:bQ e H R→kT C R S→kT (e::C) H S
 |share {e C H R S}:bQ e H R→e.jF=false→kT C H S→kT (e::C) H S
theorem kT.ok {C H R:List Ent} (p:kT C H R): ∀ {w:World},aG H w→aG (C++R) w:=by
 induction p with
 |nil hs=>exact fun h=>h.sub hs
 | @out e C H R S p _ ih=>
  intro w h;have h1:=h.perm p.perm;have hp:=an.1 h1.2;have h2:=ih h1.tail;refine⟨fun f hf=> ?_,an.2 ⟨fun f hf=> ?_,h2.2⟩⟩
  ·rcases al.1 hf with rfl|hf
   ·exact h1.head
   ·exact h2.1 f hf
  ·rename_i q;have: ∀ f∈C++S,f∈R:=by
    clear ih h2 h1 hp hf p h;induction q with
    |nil hs=>exact fun f hf=>hs.subset hf
    |out p _ ih=>
     intro f hf;rcases al.1 hf with rfl|hf
     ·exact p.mem
     ·exact p.perm.mem_iff.2 (a8 _ (ih f hf))
    |share p _ _ ih=>
     intro f hf;rcases al.1 hf with rfl|hf
     ·exact p.mem
     ·exact ih f hf
   exact hp.1 f (this f hf)
 | @share e C H R S p hx q ih=>
  intro w h;have h2:=ih h;have zx: ∀ f∈C++S,f∈H:=by
   clear ih h2 p hx;induction q with
   |nil hs=>exact fun f hf=>hs.subset hf
   |out p _ ih=>
    intro f hf;rcases al.1 hf with rfl|hf
    ·exact p.mem
    ·exact p.perm.mem_iff.2 (a8 _ (ih (h.perm p.perm).tail f hf))
   |share p _ _ ih=>
    intro f hf;rcases al.1 hf with rfl|hf
    ·exact p.mem
    ·exact ih h f hf
  refine⟨fun f hf=> ?_,an.2 ⟨fun f hf zy b h3 h4=> ?_,h2.2⟩⟩
  ·rcases al.1 hf with rfl|hf
   ·exact h.1 _ p.mem
   ·exact h2.1 f hf
  ·rcases zy with zy|zy
   ·rw[hx] at zy;cases zy
   ·have zw:e≠f:=by
     intro e';subst e';rw[hx] at zy;cases zy
    exact (aeY h.2 p.mem (zx f hf) zw) (.inr zy) b h3 h4
def HSub (H H':List Ent):Prop:= ∀ w,aG H w→aG H' w
theorem HSub.refl (H:List Ent):HSub H H:=fun _ h=>h
theorem HSub.nil (H:List Ent):HSub H []:=fun _ _=>⟨fun _ h=>absurd h (ck),ft⟩
theorem HSub.aeZ {C H R:List Ent} (p:kT C H R):HSub H C:=fun w h=>(p.ok h).sub (ik C R)
theorem HSub.mB {C H R:List Ent} (p:kT C H R):HSub H (C++R):=fun w h=>p.ok h
theorem HSub.drop {e:Ent} {H H':List Ent} (h:HSub H H'):HSub (e::H) H':=fun w hw=>h w hw.tail
theorem HSub.BJ {H H':List Ent} (p:H'.Sublist H):HSub H H':=fun w h=>h.sub p
theorem HSub.trans {A B C:List Ent} (h:HSub A B) (k:HSub B C):HSub A C:=fun w hw=>k w (h w hw)
inductive Cov:List Ent→List Ent→Prop
 |base {T H}:kp T H→Cov T H
 |out {e H R T}:bQ e H R→Cov T R→Cov (e::T) H
 |share {e H R T}:bQ e H R→e.jF=false→Cov T H→Cov (e::T) H
theorem Cov.aTE {T H:List Ent} (c:Cov T H): ∃ C S,T=C++S∧kT C H S:=by
 induction c with
 |base h=>exact⟨[],_,rfl,kT.nil h⟩
 |out p _ ih=>
  obtain⟨C,S,e,q⟩:=ih;exact⟨_::C,S,by rw[e];rfl,kT.out p q⟩
 |share p hx _ ih=>
  obtain⟨C,S,e,q⟩:=ih;exact⟨_::C,S,by rw[e];rfl,kT.share p hx q⟩
theorem HSub.aAK {T H:List Ent} (c:Cov T H):HSub H T:=by
 obtain⟨C,S,rfl,q⟩:=c.aTE;exact HSub.mB q
abbrev eE:=List (Nat×Value)
def look:eE→Nat→Option Value
 |[],_=>none
 |(s,v)::F,t=>bif gw s t then some v else look F t
def ev (F:eE):Operand→Option Value
 | .tmp t=>look F t
 | .const v=>some v
 | .global g=>some (.pointer (some ⟨g,0,none⟩))
 | .func f=>some (.func (.func f) #[] #[])
structure Ok (F:eE) (n:Nat) (a:Act):Prop where
 defers:a.defers=[]
 size:a.tmps.size=n
 slot: ∀ t v,look F t=some v→a.tmps[t]? =some v
theorem Ok.eval {F:eE} {n:Nat} {a:Act} (h:Ok F n a) {x:Operand} {v:Value} (hx:ev F x=some v):a.eval x=v:=by
 cases x with
 |tmp t=>simp [Act.eval,h.slot t v hx]
 |const v=>simpa [ev,Act.eval] using hx
 |global g=>simpa [ev,Act.eval] using hx
 |func f=>simpa [ev,Act.eval] using hx
def qO (F:eE):Option Nat→Value→eE
 |none,_=>F
 |some d,v=>(d,v)::F
def fits (n:Nat):Option Nat→Bool
 |none=>true
 |some d=>ao d n
theorem Ok.put {F:eE} {n:Nat} {a:Act} (h:Ok F n a) {d:Option Nat} {v:Value} (hd:fits n d=true):Ok (qO F d v) n (a.put d v):=by
 cases d with
 |none=>exact h
 |some d=>
  have zx:d<n:=by simpa [fits] using hd
  refine⟨h.defers,by simp [Act.put,h.size],fun t u hu=> ?_⟩;simp only[qO,look] at hu;simp only[Act.put,Array.getElem?_setIfInBounds];by_cases zy:d=t
  ·subst zy;rw[Jg rfl,Jg (by rw[h.size];exact zx)];simpa using hu
  ·rw[Jf zy];have:gw d t=false:=by
    cases hb:gw d t with
    |false=>rfl
    |true=>exact absurd (fb hb) zy
   rw[this] at hu;exact h.slot t u hu
def kP (F G:eE):Prop:= ∀ t v,look G t=some v→look F t=some v
theorem Ok.sub {F G:eE} {n:Nat} {a:Act} (h:Ok F n a) (hs:kP F G):Ok G n a:=⟨h.defers,h.size,fun t v ht=>h.slot t v (hs t v ht)⟩
theorem kP.refl (F:eE):kP F F:=fun _ _ h=>h
inductive pW (F:eE):List Nat→eE→Prop
 |nil {seen}:pW F seen []
 |skip {seen t v G}:seen.contains t=true→pW F seen G→pW F seen ((t,v)::G)
 |cons {seen t v G}:look F t=some v→pW F (t::seen) G→pW F seen ((t,v)::G)
theorem pW.slot {F:eE} {seen:List Nat} {G:eE} (h:pW F seen G): ∀ t v,seen.contains t=false→look G t=some v→look F t=some v:=by
 induction h with
 |nil=>intro t v _ h;cases h
 | @skip seen s u G hs _ ih=>
  intro t v ht hl;simp only[look] at hl;cases hb:gw s t with
  |true=>rw[fb hb] at hs;rw[hs] at ht;cases ht
  |false=>rw[hb] at hl;exact ih t v ht hl
 | @cons seen s u G hs _ ih=>
  intro t v ht hl;simp only[look] at hl;cases hb:gw s t with
  |true=>
   rw[hb] at hl;have:=fb hb;subst this;simp at hl;rw[←hl];exact hs
  |false=>
   rw[hb] at hl;refine ih t v ?_ hl;have zy:(t==s)=false:=by
    cases hc:t==s with
    |false=>rfl
    |true=>rw[beq_iff_eq] at hc;subst hc;simp at hb
   rw[List.contains_cons,zy,ht];rfl
theorem kP.of {F G:eE} (h:pW F [] G):kP F G:=fun t v ht=>h.slot t v rfl ht
theorem MB (G F:eE) (t:Nat):look (G++F) t=match look G t with|some u=>some u|none=>look F t:=by
 induction G with
 |nil=>rfl
 |cons p G ih=>
  obtain⟨s,u⟩:=p;simp only[dw,look];cases gw s t with
  |true=>rfl
  |false=>exact ih
abbrev fW:=Exit→Act→World→Prop
def dL (Q:fW) (e:Exit) (n:Nat) (F:eE) (H:List Ent):Prop:= ∀ a w,Ok F n a→aG H w→Q e a w
def dG (P:Program) (Q:fW) (n:Nat) (c:Code) (F:eE) (H:List Ent):Prop:= ∀ a w,Ok F n a→aG H w→c.wp P Q a w
def cM (P:Program) (ops:Array Oper) (Q:fW) (n:Nat) (l:List Oper) (F:eE) (H:List Ent):Prop:= ∀ a w,Ok F n a→aG H w→wpList P ops Q l a w
section
variable {P:Program} {Q:fW} {n:Nat} {F:eE} {H:List Ent}
theorem aO {c:Code} {H':List Ent} (hH:HSub H H') (h:dG P Q n c F H'):dG P Q n c F H:=fun a w ha hw=>h a w ha (hH w hw)
theorem aN {ops:Array Oper} {l:List Oper} {H':List Ent} (hH:HSub H H') (h:cM P ops Q n l F H'):cM P ops Q n l F H:=fun a w ha hw=>h a w ha (hH w hw)
theorem mC {e:Exit} {G:eE} {H':List Ent} (hF:kP F G) (hH:HSub H H') (h:dL Q e n G H'):dL Q e n F H:=fun a w ha hw=>h a w (ha.sub hF) (hH w hw)
theorem jU {x y:Code} (h:dG P (Exit.then (y.wp P Q) Q) n x F H):dG P Q n (.seq x y) F H:=fun a w ha hw=>wp_seq (h a w ha hw)
theorem afA (h:dL Q .normal n F H):dG P Q n .skip F H:=fun a w ha hw=>wp_skip (h a w ha hw)
theorem afB {id:Nat} (h:dL Q (.exit id) n F H):dG P Q n (.exit id) F H:=fun a w ha hw=>wp_exit (h a w ha hw)
theorem apU (h:dL Q .ret n F H):dG P Q n .ret F H:=fun a w ha hw=>wp_ret (h a w ha hw)
theorem afC {c:Operand} {x y:Code} (t:Bool) (hc:ev F c=some (.bool t)) (h1:t=true→dG P Q n x F H) (h2:t=false→dG P Q n y F H):dG P Q n (.cond c x y) F H:=
 fun a w ha hw=>wp_cond_split (ha.eval hc) (fun ht=>h1 ht a w ha hw) (fun ht=>h2 ht a w ha hw)
theorem QD {c:Operand} {x y:Code} (hc:ev F c=some (.bool true)) (h:dG P Q n x F H):dG P Q n (.cond c x y) F H:=
 afC true hc (fun _=>h) fun h=>by cases h
theorem QE {c:Operand} {x y:Code} (hc:ev F c=some (.bool false)) (h:dG P Q n y F H):dG P Q n (.cond c x y) F H:=
 afC false hc (fun h=>by cases h) fun _=>h
theorem XU {id:Nat} {c:Code} (h:dG P (Exit.inBlock id Q) n c F H):dG P Q n (.block id c) F H:=fun a w ha hw=>wp_block (h a w ha hw)
theorem QF {id:Nat} {l:List Oper} (h:cM P l.toArray Q n l F H):dG P Q n (.region id l.toArray false) F H:=fun a w ha hw=>wp_region_lit (h a w ha hw)
theorem apV {ops:Array Oper} (h:dL Q .normal n F H):cM P ops Q n [] F H:=fun a w ha hw=>wpList_nil (h a w ha hw)
theorem afD {y:Code} (h:dG P Q n y F H):dL (Exit.then (y.wp P Q) Q) .normal n F H:=h
theorem AK {K:Act→World→Prop} {id:Nat} (h:dL Q (.exit id) n F H):dL (Exit.then K Q) (.exit id) n F H:=h
theorem DY {K:Act→World→Prop} (h:dL Q .ret n F H):dL (Exit.then K Q) .ret n F H:=h
theorem XV {id:Nat} (h:dL Q .normal n F H):dL (Exit.inBlock id Q) .normal n F H:=h
theorem AL {id:Nat} (h:dL Q .ret n F H):dL (Exit.inBlock id Q) .ret n F H:=h
theorem wT {id:Nat} (h:dL Q .normal n F H):dL (Exit.inBlock id Q) (.exit id) n F H:=fun a w ha hw=>by
 show if id=id then _ else _
 rw[Jg rfl];exact h a w ha hw
theorem AM {id i:Nat} (zy:gw i id=false) (h:dL Q (.exit i) n F H):dL (Exit.inBlock id Q) (.exit i) n F H:=fun a w ha hw=>by
 show if i=id then _ else _
 rw[Jf (fun e=>by subst e;simp at zy)];exact h a w ha hw
def afE {σ:Type} (n:Nat) (I:σ→Prop) (Fi:σ→eE) (Hi:σ→List Ent) (μ:σ→Nat) (k:Nat) (a:Act) (w:World):Prop:= ∃ y,I y∧Ok (Fi y) n a∧aG (Hi y) w∧μ y<k
theorem least {p:Nat→Prop} (h: ∃ k,p k): ∃ k,p k∧ ∀ j,p j→k≤j:=by
 obtain⟨k,hk⟩:=h;induction k using j6 with
 |_ k ih=>
  by_cases hj: ∃ j,j<k∧p j
  ·obtain⟨j,h1,h2⟩:=hj;exact ih j h1 h2
  ·exact⟨k,hk,fun j h=>il fun hlt=>hj ⟨j,hlt,h⟩⟩
theorem afF {c:Code} {σ:Type} (I:σ→Prop) (Fi:σ→eE) (Hi:σ→List Ent) (μ:σ→Nat) (x0:σ) (h0:I x0) (hF:kP F (Fi x0)) (hH:HSub H (Hi x0)) (round: ∀ x,I x→dG P (Exit.then (afE n I Fi Hi μ (μ x)) Q) n c (Fi x) (Hi x)):dG P Q n (.loop c) F H:=by
 classical
 intro a w ha hw
 let J:Act→World→Nat→Prop:=fun a w k=> ∃ x,I x∧Ok (Fi x) n a∧aG (Hi x) w∧μ x=k
 let m:Act→World→Nat:=fun a w=>if h: ∃ k,J a w k then im (least h) else 0
 refine wp_loop (fun a w=> ∃ k,J a w k) m ⟨_,x0,h0,ha.sub hF,hH w hw,rfl⟩ ?_;intro a w hI;have hm:m a w=im (least hI):=by simp only[m];rw[dif_pos hI]
 obtain⟨x,h1,h2,h3,h4⟩:=(jb (least hI)).1;refine wp_mono (round x h1 a w h2 h3) ?_;intro e a' w' hq;cases e<;>try exact hq
 obtain⟨y,g1,g2,g3,g4⟩:=hq;have hJ: ∃ k,J a' w' k:=⟨_,y,g1,g2,g3,rfl⟩;refine⟨hJ, ?_⟩;have zy:m a' w'=im (least hJ):=by simp only[m];rw[dif_pos hJ]
 rw[hm,zy, ←h4];exact Nat.lt_of_le_of_lt ((jb (least hJ)).2 _ ⟨y,g1,g2,g3,rfl⟩) g4
theorem atJ {σ:Type} {I:σ→Prop} {Fi:σ→eE} {Hi:σ→List Ent} {μ:σ→Nat} {k:Nat} (y:σ) (hI:I y) (hF:kP F (Fi y)) (hH:HSub H (Hi y)) (hμ:μ y<k):dL (Exit.then (afE n I Fi Hi μ k) Q) .normal n F H:=
 fun a w ha hw=>⟨y,hI,ha.sub hF,hH w hw,hμ⟩
end
section
variable {P:Program} {Q:fW} {n:Nat} {F:eE} {H:List Ent}
theorem cU {c:Code} {σ:Type} (I:σ→Prop) (G:σ→eE) (μ:σ→Nat) (x0:σ) (h0:I x0) (hF:pW F [] (G x0)) (round: ∀ x,I x→dG P (Exit.then (afE n I (fun x=>G x++F) (fun _=>H) μ (μ x)) Q) n c (G x++F) H):dG P Q n (.loop c) F H:=
 afF I (fun x => G x ++ F) (fun _ => H) μ x0 h0 (fun t v h => by
  rw[MB] at h;split at h
  ·rename_i u hu;simp only[aq] at h;subst h;exact hF.slot t u rfl hu
  ·exact h) (HSub.refl H) round
theorem aC {c:Code} {σ:Type} (I:σ→Prop) (G:σ→eE) (E:σ→List Ent) (S:List Ent) (μ:σ→Nat) (x0:σ) (h0:I x0) (hF:pW F [] (G x0)) (hH:HSub H (E x0++S)) (round: ∀ x,I x→dG P (Exit.then (afE n I (fun x=>G x++F) (fun x=>E x++S) μ (μ x)) Q) n c (G x++F) (E x++S)):dG P Q n (.loop c) F H:=
 afF I (fun x => G x ++ F) (fun x => E x ++ S) μ x0 h0 (fun t v h => by
  rw[MB] at h;split at h
  ·rename_i u hu;simp only[aq] at h;subst h;exact hF.slot t u rfl hu
  ·exact h) hH round
end
structure Ct (P:Program) (f:FuncId) (args:List Value) (H:List Ent) (R:Value→List Ent→Prop):Prop where
 go: ∀ Fr w,aG (H++Fr) w→Calls P f args.toArray w fun e w'=> ∃ v H',e= .returned v∧R v H'∧aG (H'++Fr) w'
def ini:Nat→List Value→eE
 |_,[]=>[]
 |k,v::l=>(k,v)::ini (k+1) l
theorem afG: ∀ (l:List Value) (k t:Nat) (v:Value),look (ini k l) t=some v→k≤t∧l[t-k]? =some v:=by
 intro l;induction l with
 |nil=>intro k t v h;cases h
 |cons u l ih=>
  intro k t v h;simp only[ini,look] at h;cases hb:gw k t with
  |true=>
   rw[hb] at h;have:=fb hb;subst this;simp at h;simp [h]
  |false=>
   rw[hb] at h;obtain⟨h1,h2⟩:=ih (k+1) t v h;refine⟨Z8, ?_⟩;rw[show t-k=(t-(k+1))+1 from by omega];simpa using h2
def Fin (P:Program) (fn:Func) (R:Value→List Ent→Prop) (Fr:List Ent):fW:=bodyPost P fn fun e w'=> ∃ v H',e= .returned v∧R v H'∧aG (H'++Fr) w'
theorem alS {P:Program} {f:FuncId} {fn:Func} {c:Code} {args:List Value} {H:List Ent} {R:Value→List Ent→Prop} {n:Nat} (hf:P.funcs[f]? =some fn) (zy:fn.ntmps=n) (hb:fn.body=some c) (hn:gj args.length n=true) (h: ∀ Fr,dG P (Fin P fn R Fr) n c (ini 0 args) (H++Fr)):Ct P f args H R:=by
 refine⟨fun Fr w hw=> ?_⟩;subst zy;refine calls_of_wp hf hb (h Fr _ w ⟨rfl, ?_, ?_⟩ hw)
 ·have:=ay hn;simp;omega
 ·intro t v ht;have:=afG args 0 t v ht;obtain⟨_,h2⟩:=this;simp only[kr] at h2;have hl:=(aj.1 h2).1;rw[Array.getElem?_append_left (by simpa using hl)];simpa using h2
theorem gH {P:Program} {f:FuncId} {args:List Value} {H:List Ent} {R R':Value→List Ent→Prop} (h:Ct P f args H R) (hr: ∀ v H',R v H'→R' v H'):Ct P f args H R':=
 ⟨fun Fr w hw=>(h.go Fr w hw).mono fun _ _ ⟨v,H',h1,h2,h3⟩=>⟨v,H',h1,hr _ _ h2,h3⟩⟩
def rd (tmps:Array Value):ResultVar→Sem Value
 | .tmp t=>pure (tmps.getD t undef)
 | .cell a t=>do loadVar t (←asAddr (tmps.getD a undef))
inductive lC (P:Program) (F:eE) (H:List Ent):ResultVar→Value→Prop
 |tmp {t v}:look F t=some v→lC P F H (.tmp t) v
 |read {t ty a v}:look F t=some (.pointer (some a))→(∀ w,aG H w→(loadVar ty a).run P w= .ok v w)→lC P F H (.cell t ty) v
theorem lC.run {P:Program} {F:eE} {H:List Ent} {r:ResultVar} {v:Value} (h:lC P F H r v) {n:Nat} {a:Act} {w:World} (ha:Ok F n a) (hw:aG H w):(rd a.tmps r).run P w= .ok v w:=by
 cases h with
 |tmp h1=>simp [rd,ha.slot _ _ h1]
 |read h1 h2=>simp [rd,ha.slot _ _ h1,asAddr,h2 w hw]
inductive DZ (P:Program) (F:eE) (H:List Ent):List ResultVar→Value→Prop
 |r0:DZ P F H [] (.tuple #[])
 |r1 {r v}:lC P F H r v→DZ P F H [r] v
 |r2 {r v r' v'}:lC P F H r v→lC P F H r' v'→DZ P F H [r,r'] (.tuple #[v,v'])
 |r3 {r v r' v' r3 v3}:lC P F H r v→lC P F H r' v'→lC P F H r3 v3→DZ P F H [r,r',r3] (.tuple #[v,v',v3])
 |r4 {r v r' v' r3 v3 r4 v4}:lC P F H r v→lC P F H r' v'→lC P F H r3 v3→lC P F H r4 v4→DZ P F H [r,r',r3,r4] (.tuple #[v,v',v3,v4])
 |r5 {r v r' v' r3 v3 r4 v4 r5 v5}:lC P F H r v→lC P F H r' v'→lC P F H r3 v3→lC P F H r4 v4→lC P F H r5 v5→DZ P F H [r,r',r3,r4,r5] (.tuple #[v,v',v3,v4,v5])
theorem alT (fn:Func) (tmps:Array Value):results fn tmps=(fn.results.mapM (rd tmps)>>=fun vs=>pure (if h:vs.size=1 then vs[0] else .tuple vs)):=by
 have e:rd tmps=(fun| .tmp t=>pure (tmps.getD t undef)| .cell a t=>do loadVar t (←asAddr (tmps.getD a undef))):=by
  funext r;cases r<;>rfl
 unfold results;rw[e];rfl
theorem DZ.results {P:Program} {fn:Func} {F:eE} {H:List Ent} {v:Value} {rs:List ResultVar} (hrs:fn.results=rs.toArray) (h:DZ P F H rs v) {n:Nat} {a:Act} {w:World} (ha:Ok F n a) (hw:aG H w):(results fn a.tmps).run P w= .ok v w:=by
 rw[alT,hrs];cases h with
 |r0=>simp
 |r1 h1=>simp [h1.run ha hw]
 |r2 h1 h2=>simp [h1.run ha hw,h2.run ha hw]
 |r3 h1 h2 h3=>simp [h1.run ha hw,h2.run ha hw,h3.run ha hw]
 |r4 h1 h2 h3 h4=>simp [h1.run ha hw,h2.run ha hw,h3.run ha hw,h4.run ha hw]
 |r5 h1 h2 h3 h4 h5=>simp [h1.run ha hw,h2.run ha hw,h3.run ha hw,h4.run ha hw,h5.run ha hw]
theorem qE {P:Program} {fn:Func} {R:Value→List Ent→Prop} {Fr:List Ent} {n:Nat} {F:eE} {H:List Ent} {rs:List ResultVar} (hrs:fn.results=rs.toArray) {v:Value} (hr:DZ P F H rs v) (H':List Ent) (hR:R v H') (hH:HSub H (H'++Fr)):dL (Fin P fn R Fr) .ret n F H:=
 fun a w ha hw=>⟨ha.defers,_,hr.results hrs ha hw,_,_,rfl,hR,hH w hw⟩
theorem afH {P:Program} {fn:Func} {R:Value→List Ent→Prop} {Fr:List Ent} {n:Nat} {F:eE} {H:List Ent} {rs:List ResultVar} (hrs:fn.results=rs.toArray) {v:Value} (hr:DZ P F H rs v) (H':List Ent) (hR:R v H') (hH:HSub H (H'++Fr)):dL (Fin P fn R Fr) .normal n F H:=
 fun a w ha hw=>⟨ha.defers,_,hr.results hrs ha hw,_,_,rfl,hR,hH w hw⟩
end sl
namespace sl
open Go.RowKit bO
theorem acC {w:World} {b:Nat} {o:Obj} (h:w.heap[b]? =some o):b<w.heap.size:=(dn.1 h).1
def box (b:Nat) (cs:List Value) (t:TypeId):Ent where
 jF:=true
 lD k:=k=b
 holds w:=w.heap[b]? =some (.cells cs.toArray t (0,0))
 lt h hk:=by subst hk;exact acC h
 keep h _ _ _ _ hb:=by rw[hb b rfl];exact h
theorem yS {w:World} {B e sz n:Nat} {v:Value} {xs:List Value} (h:w.ownsRow B e sz v n xs) {k:Nat} (hk:v.ownBlock=some k): ∃ cap cur,v= .slice (some ⟨k,0,none⟩) n cap∧B≤k∧w.heap[k]? =some (.cells cur e (0,0))∧n≤cap∧cap≤maxLen∧cur.size=cap*sz∧cur.toList.take (n*sz)=xs:=by
 rcases h.2 with⟨rfl,_⟩|⟨g,cap,cur,rfl,r⟩
 ·cases hk
 ·have e:g=k:=a7 hk;subst e;exact⟨cap,cur,rfl,r⟩
def own (v:Value) (e sz n:Nat) (xs:List Value):Ent where
 jF:=true
 lD k:=v.ownBlock=some k
 holds w:=w.ownsRow 0 e sz v n xs
 lt h hk:=by obtain⟨_,_,_,_,hg,_⟩:=yS h hk;exact acC hg
 keep {w w'} h _ _ _ _ hb:=by
  refine⟨h.1, ?_⟩;rcases h.2 with hn|⟨g,cap,cur,rfl,h0,hg,r⟩
  ·exact .inl hn
  ·exact .inr ⟨g,cap,cur,rfl,h0,by rw[hb g rfl];exact hg,r⟩
theorem WV {w:World} {sz:Nat} {v:Value} {rows:List (List Value)} (h:bX w sz v rows) (hr:rows≠[]): ∃ b off cap,v= .slice (some ⟨b,off,none⟩) rows.length cap∧b<w.heap.size:=by
 rcases h with⟨h0,_⟩|⟨b,off,cap,hv,_,_,_,hb,_⟩
 ·exact absurd h0 hr
 ·exact⟨b,off,cap,hv,hb⟩
def sl (sz:Nat) (v:Value) (rows:List (List Value)):Ent where
 jF:=false
 lD k:=rows≠[]∧v.ownBlock=some k
 holds w:=bX w sz v rows
 lt h hk:=by
  obtain⟨b,off,cap,rfl,hb⟩:=WV h hk.1;have e:b=_:=a7 hk.2;subst e;exact hb
 keep {w w'} h _ _ _ hs hb:=by
  rcases h with h|⟨b,off,cap,rfl,h1,h2,h3,h4,h5⟩
  ·exact .inl h
  ·refine .inr ⟨b,off,cap,rfl,h1,h2,h3,di h4 hs,fun i r hi=>⟨(h5 i r hi).1,fun j x hj=> ?_⟩⟩;have zy:rows≠[]:=by intro e;subst e;simp at h3
   have:=(h5 i r hi).2 j x hj;rw[World.cell?_of_block (w:=w) (hb b ⟨zy,rfl⟩)];exact this
def bL (W:World):Ent where
 jF:=false
 lD k:=k<W.heap.size
 holds w:=Below W.heap.size W w
 lt h hk:=di hk h.size
 keep h h1 h2 h3 h4 hb:=h.trans ⟨h1,h2,h3,h4,fun k hk=>hb k hk⟩
def Qt (P:Program) (n:Nat) (o:Oper) (F:eE) (H:List Ent) (v:Value):Prop:= ∀ a w,Ok F n a→aG H w→(execOp a.eval o).run P w= .ok (.value v) w
def cN (P:Program) (n:Nat) (o:Oper) (F:eE) (H:List Ent) (K:Value→List Ent→Prop):Prop:=
 ∀ (Q:fW) a w (next:Act→World→Prop),Ok F n a→aG H w→(∀ v H' w',K v H'→aG H' w'→next (a.put o.dst v) w')→o.wp P a w next Q
section
variable {P:Program} {Q:fW} {n:Nat} {F:eE} {H:List Ent} {ops:Array Oper} {o:Oper} {rest:List Oper}
theorem iA {v:Value} (h:Qt P n o F H v):cN P n o F H fun u H'=>u=v∧H'=H:=fun Q a w next ha hw hn=>by
 unfold bj;rw[h a w ha hw];exact hn v H w ⟨rfl,rfl⟩ hw
def pX (ops:Array Oper) (j:Nat):Option Nat:=(ops[j]?).bind (·.dst)
theorem vF {j t:Nat} {b:Bool} {a:Act} (ha:Ok F n a) (hs:pX ops j=some t) (hv:look F t=some (.bool b)):yielded ops a.tmps j=some b:=by
 have h1:ops[j]?.bind (·.dst)=some t:=hs;unfold yielded;rw[h1];simp [ha.slot t _ hv]
inductive mV (ops:Array Oper) (F:eE) (o:Oper):Prop
 |none:o.guard=none→mV ops F o
 |on {j t b}:o.guard=some (j,b)→pX ops j=some t→look F t=some (.bool b)→mV ops F o
theorem mV.wanted {a:Act} (h:mV ops F o) (ha:Ok F n a):bc o (yielded ops a.tmps)=true:=by
 cases h with
 |none h=>simp [bc,h]
 |on h1 h2 h3=>simp [bc,h1,vF ha h2 h3]
theorem acD {K:Value→List Ent→Prop} (hg:mV ops F o) (hd:fits n o.dst=true) (h:cN P n o F H K) (k: ∀ v H',K v H'→cM P ops Q n rest (qO F o.dst v) H'):cM P ops Q n (o::rest) F H:=
 fun a w ha hw=>wpList_step fun K' hK=>by
  rw[Jg (hg.wanted ha)];exact h Q a w K' ha hw fun v H' w' hk zy=>hK _ _ (k v H' hk _ _ (ha.put hd) zy)
theorem QG {v:Value} (hg:mV ops F o) (hd:fits n o.dst=true) (h:Qt P n o F H v) (k:cM P ops Q n rest (qO F o.dst v) H):cM P ops Q n (o::rest) F H:=
 acD hg hd (iA h) fun u H' ⟨h1,h2⟩=>by subst h1;subst h2;exact k
theorem eK {d:Nat} {op:Op} {ty:TypeId} {ps:String} {af:Array Edge} {g:Option (Nat×Bool)} {v:Value} (hg:mV ops F ⟨some d,op,ty,ps,af,g⟩) (hd:ao d n=true) (h:Qt P n ⟨some d,op,ty,ps,af,g⟩ F H v) (k:cM P ops Q n rest ((d,v)::F) H):cM P ops Q n (⟨some d,op,ty,ps,af,g⟩::rest) F H:=QG hg hd h k
theorem aL {d:Nat} {op:Op} {ty:TypeId} {ps:String} {af:Array Edge} {g:Option (Nat×Bool)} {K:Value→List Ent→Prop} (hg:mV ops F ⟨some d,op,ty,ps,af,g⟩) (hd:ao d n=true) (h:cN P n ⟨some d,op,ty,ps,af,g⟩ F H K) (k: ∀ v H',K v H'→cM P ops Q n rest ((d,v)::F) H'):cM P ops Q n (⟨some d,op,ty,ps,af,g⟩::rest) F H:=acD hg hd h k
theorem dC {op:Op} {ty:TypeId} {ps:String} {af:Array Edge} {g:Option (Nat×Bool)} {K:Value→List Ent→Prop} (hg:mV ops F ⟨none,op,ty,ps,af,g⟩) (h:cN P n ⟨none,op,ty,ps,af,g⟩ F H K) (k: ∀ v H',K v H'→cM P ops Q n rest F H'):cM P ops Q n (⟨none,op,ty,ps,af,g⟩::rest) F H:=acD hg rfl h k
theorem apW {j t:Nat} {b:Bool} (hg:o.guard=some (j,b)) (hs:pX ops j=some t) (hv:look F t=some (.bool (!b))) (hd:fits n o.dst=true) (k:cM P ops Q n rest (qO F o.dst undef) H):cM P ops Q n (o::rest) F H:=
 fun a w ha hw=>wpList_step fun K' hK=>by
  have: ¬ bc o (yielded ops a.tmps)=true:=by
   simp only[bc,hg,vF ha hs hv];cases b<;>simp
  rw[Jf this];exact hK _ _ (k _ _ (ha.put hd) hw)
theorem afI {d:Nat} {op:Op} {ty:TypeId} {ps:String} {af:Array Edge} {j t:Nat} {b:Bool} (hs:pX ops j=some t) (hv:look F t=some (.bool (!b))) (hd:ao d n=true) (k:cM P ops Q n rest ((d,undef)::F) H):cM P ops Q n (⟨some d,op,ty,ps,af,some (j,b)⟩::rest) F H:=apW rfl hs hv hd k
theorem afJ {op:Op} {ty:TypeId} {ps:String} {af:Array Edge} {j t:Nat} {b:Bool} (hs:pX ops j=some t) (hv:look F t=some (.bool (!b))) (k:cM P ops Q n rest F H):cM P ops Q n (⟨none,op,ty,ps,af,some (j,b)⟩::rest) F H:=apW rfl hs hv rfl k
variable {x y z:Operand} {v u:Value}
theorem bT (ho:o.op= .move x) (hx:ev F x=some v):Qt P n o F H v:=fun a w ha _=>by simp [execOp,ho,ha.eval hx]
theorem EA (ho:o.op= .assign x) (hx:ev F x=some v):Qt P n o F H v:=fun a w ha _=>by simp [execOp,ho,ha.eval hx]
theorem afK (ho:o.op= .pick x y z) (hx:ev F x=some (.bool true)) (hy:ev F y=some v):Qt P n o F H v:=fun a w ha _=>by simp [execOp,ho,ha.eval hx,ha.eval hy,asBool]
theorem afL (ho:o.op= .pick x y z) (hx:ev F x=some (.bool false)) (hz:ev F z=some v):Qt P n o F H v:=fun a w ha _=>by simp [execOp,ho,ha.eval hx,ha.eval hz,asBool]
theorem aOM {b:Bool} {T:TypeId} (ho:o.op= .unOp .not T x) (hx:ev F x=some (.bool b)):Qt P n o F H (.bool (!b)):=fun a w ha _=>by simp [execOp,ho,ha.eval hx,Op.unary]
theorem apX {T:TypeId} (ho:o.op= .unOp .not T x) (hx:ev F x=some (.bool true)):Qt P n o F H (.bool false):=aOM ho hx
theorem apY {T:TypeId} (ho:o.op= .unOp .not T x) (hx:ev F x=some (.bool false)):Qt P n o F H (.bool true):=aOM ho hx
theorem XX {i:Nat} {vs:Array Value} (ho:o.op= .extract x i) (hx:ev F x=some (.tuple vs)) (hi:vs[i]? =some v):Qt P n o F H v:=fun a w ha _=>by simp [execOp,ho,ha.eval hx,Instr.extract,hi]
section ints
variable {k:IntKind} {i j:Int} {T T':TypeId}
theorem acE {op:BinOp} {r:Int} (ho:o.op= .binOp op T x y T') (hx:ev F x=some (.int k i)) (hy:ev F y=some (.int k j)) (zy:op= .add∧r=i+j∨op= .sub∧r=i-j∨op= .mul∧r=i*j) (hw:k.wrap r=r):Qt P n o F H (.int k r):=fun a w ha _=>by
 rcases zy with⟨rfl,rfl⟩|⟨rfl,rfl⟩|⟨rfl,rfl⟩<;>simp [execOp,ho,ha.eval hx,ha.eval hy,eqGuard,binOp,Op.intArith,hw]
theorem MD (ho:o.op= .binOp .add T x y T') (hx:ev F x=some (.int .i64 i)) (hy:ev F y=some (.int .i64 j)) (h: -9223372036854775808≤i+j∧i+j≤9223372036854775807):Qt P n o F H (.int .i64 (i+j)):=acE ho hx hy (.inl ⟨rfl,rfl⟩) (IntWalk.i64_in _ h)
theorem XY (ho:o.op= .binOp .sub T x y T') (hx:ev F x=some (.int .i64 i)) (hy:ev F y=some (.int .i64 j)) (h: -9223372036854775808≤i-j∧i-j≤9223372036854775807):Qt P n o F H (.int .i64 (i-j)):=acE ho hx hy (.inr (.inl ⟨rfl,rfl⟩)) (IntWalk.i64_in _ h)
theorem aON (ho:o.op= .binOp .mul T x y T') (hx:ev F x=some (.int .i64 i)) (hy:ev F y=some (.int .i64 j)) (h: -9223372036854775808≤i*j∧i*j≤9223372036854775807):Qt P n o F H (.int .i64 (i*j)):=acE ho hx hy (.inr (.inr ⟨rfl,rfl⟩)) (IntWalk.i64_in _ h)
theorem aJL (ho:o.op= .binOp .add T x y T') (hx:ev F x=some (.int k i)) (hy:ev F y=some (.int k j)):Qt P n o F H (.int k (k.wrap (i+j))):=fun a w ha _=>by simp [execOp,ho,ha.eval hx,ha.eval hy,eqGuard,binOp,Op.intArith]
theorem aJM (ho:o.op= .binOp .sub T x y T') (hx:ev F x=some (.int k i)) (hy:ev F y=some (.int k j)):Qt P n o F H (.int k (k.wrap (i-j))):=fun a w ha _=>by simp [execOp,ho,ha.eval hx,ha.eval hy,eqGuard,binOp,Op.intArith]
theorem aJN (ho:o.op= .binOp .mul T x y T') (hx:ev F x=some (.int k i)) (hy:ev F y=some (.int k j)):Qt P n o F H (.int k (k.wrap (i*j))):=fun a w ha _=>by simp [execOp,ho,ha.eval hx,ha.eval hy,eqGuard,binOp,Op.intArith]
def eW:BinOp→Int→Int→Bool
 | .eql,i,j=>i==j
 | .neq,i,j=>i !=j
 | .lss,i,j=>decide (i<j)
 | .leq,i,j=>decide (i≤j)
 | .gtr,i,j=>decide (i>j)
 | .geq,i,j=>decide (i ≥ j)
 |_,_,_=>false
def apZ:BinOp→Bool
 | .eql| .neq| .lss| .leq| .gtr| .geq=>true
 |_=>false
theorem aTF {op:BinOp} (ho:o.op= .binOp op T x y T') (hc:apZ op=true) (hx:ev F x=some (.int k i)) (hy:ev F y=some (.int k j)):Qt P n o F H (.bool (eW op i j)):=fun a w ha _=>by
 cases op<;>(first|(cases hc;done)|simp [execOp,ho,ha.eval hx,ha.eval hy,eqGuard,binOp,Op.intCmp,eW])
theorem yT {op:BinOp} {b:Bool} (ho:o.op= .binOp op T x y T') (hc:apZ op=true) (hx:ev F x=some (.int k i)) (hy:ev F y=some (.int k j)) (h:eW op i j=b):Qt P n o F H (.bool b):=h ▸ aTF ho hc hx hy
theorem aOO (h:i=j):eW .eql i j=true:=by simp [eW,h]
theorem aOP (h:i≠j):eW .eql i j=false:=by simp [eW,h]
theorem aOQ (h:i≠j):eW .neq i j=true:=by simp [eW,h]
theorem aOR (h:i=j):eW .neq i j=false:=by simp [eW,h]
theorem aOS (h:i<j):eW .lss i j=true:=by simp [eW,h]
theorem aOT (h:j≤i):eW .lss i j=false:=by simp [eW,h]
theorem aOU (h:i≤j):eW .leq i j=true:=by simp [eW,h]
theorem aOV (h:j<i):eW .leq i j=false:=by simp [eW];omega
theorem aOW (h:j<i):eW .gtr i j=true:=by simp [eW,h]
theorem aOX (h:i≤j):eW .gtr i j=false:=by simp [eW];omega
theorem aOY (h:j≤i):eW .geq i j=true:=by simp [eW,h]
theorem aOZ (h:i<j):eW .geq i j=false:=by simp [eW];omega
theorem tP {op:BinOp} (hg:mV ops F o) (hd:fits n o.dst=true) (ho:o.op= .binOp op T x y T') (hc:apZ op=true) (hx:ev F x=some (.int k i)) (hy:ev F y=some (.int k j)) (h1:eW op i j=true→cM P ops Q n rest (qO F o.dst (.bool true)) H) (h2:eW op i j=false→cM P ops Q n rest (qO F o.dst (.bool false)) H):cM P ops Q n (o::rest) F H:=by
 cases hb:eW op i j with
 |true=>exact QG hg hd (yT ho hc hx hy hb) (h1 hb)
 |false=>exact QG hg hd (yT ho hc hx hy hb) (h2 hb)
theorem aAL (h:eW .eql i j=true):i=j:=by simpa [eW] using h
theorem aqA (h:eW .eql i j=false):i≠j:=by simpa [eW] using h
theorem aAM (h:eW .neq i j=true):i≠j:=by simpa [eW] using h
theorem aqB (h:eW .neq i j=false):i=j:=by simpa [eW] using h
theorem aAN (h:eW .lss i j=true):i<j:=by simpa [eW] using h
theorem aqC (h:eW .lss i j=false):j≤i:=by simpa [eW] using h
theorem aAO (h:eW .leq i j=true):i≤j:=by simpa [eW] using h
theorem aqD (h:eW .leq i j=false):j<i:=by simpa [eW] using h
theorem aAP (h:eW .gtr i j=true):j<i:=by simpa [eW] using h
theorem aqE (h:eW .gtr i j=false):i≤j:=by simpa [eW] using h
theorem aAQ (h:eW .geq i j=true):j≤i:=by simpa [eW] using h
theorem aqF (h:eW .geq i j=false):i<j:=by simpa [eW] using h
end ints
end
end sl
namespace sl
open Go.RowKit bO
def acF:TypeDesc→Bool
 | .struct _| .array _ _=>true
 |_=>false
def aAR (P:Program) (t:TypeId):Option (Bool×Nat×Nat×Value):=
 match P.info? t,P.underlying t with
 |some i,some d=>i.zero.map fun z=>(acF d,i.size,i.bytes,z)
 |_,_=>none
class Ty (P:Program) (t:TypeId) (agg:outParam Bool) (sz bytes:outParam Nat) (z:outParam Value):Prop where
 h:aAR P t=some (agg,sz,bytes,z)
 hz:z.cells.size=sz
def QH (P:Program) (s:TypeId) (f:Nat):Option (Nat×Nat):=
 match P.underlying s with
 |some (.struct fs)=>(fs[f]?).map fun d=>(d.offset,P.cellsOf d.type)
 |_=>none
class lX (P:Program) (s:TypeId) (f:Nat) (off sz:outParam Nat):Prop where
 h:QH P s f=some (off,sz)
 pos:0<sz
class pD (P:Program) (t:TypeId) (e:outParam TypeId):Prop where
 h:P.underlying t=some (.slice e)
class EB (P:Program) (t:TypeId):Prop where
 h:P.underlying t=some .string
class AA (P:Program) (t:TypeId) (k:outParam IntKind):Prop where
 h:P.underlying t=some (.int k)
class Mp (P:Program) (t:TypeId) (k e:outParam TypeId):Prop where
 h:P.underlying t=some (.map k e)
class cG (P:Program) (f:FuncId):Prop where
 h:((P.funcs[f]?).map fun fn=>(fn.body.isSome,fn.name== "runtime.NumGoroutine"))=some (true,false)
class Zr (P:Program) (t:TypeId) (zc:outParam (List Value)):Prop where
 h: ∃ agg sz bytes z,Ty P t agg sz bytes z∧z.cells=zc.toArray
theorem Ty.info {P:Program} {t:TypeId} {agg:Bool} {sz bytes:Nat} {z:Value} (h:Ty P t agg sz bytes z): ∃ i d,P.info? t=some i∧P.underlying t=some d∧acF d=agg∧i.size=sz∧i.bytes=bytes∧i.zero=some z:=by
 have h:=h.h;unfold aAR at h;split at h
 ·rename_i i d hi hd;obtain⟨z',hz,e⟩:=dh.1 h;simp only[de] at e;obtain⟨e1,e2,e3,rfl⟩:=e;exact⟨i,d,hi,hd,e1,e2,e3,hz⟩
 ·cases h
theorem XZ {P:Program} {t:TypeId} {agg:Bool} {sz bytes:Nat} {z:Value} (h:Ty P t agg sz bytes z) (w:World):(isAgg t).run P w= .ok agg w:=by
 obtain⟨i,d,_,hd,ha,_⟩:=h.info;subst ha;simp only[isAgg,ab,run_underlying hd,aa];cases d<;>rfl
theorem eH {P:Program} {t:TypeId} {agg:Bool} {sz bytes:Nat} {z:Value} (h:Ty P t agg sz bytes z) (w:World):(sizeOf t).run P w= .ok sz w:=by
 obtain⟨i,d,hi,_,_,hs,_⟩:=h.info;simp [sizeOf,typeInfo,ab,hi,hs]
theorem rB {P:Program} {t:TypeId} {agg:Bool} {sz bytes:Nat} {z:Value} (h:Ty P t agg sz bytes z) (w:World):(zeroValue t).run P w= .ok z w:=by
 obtain⟨i,d,hi,_,_,_,_,hz⟩:=h.info;simp [zeroValue,typeInfo,ab,hi,hz]
def valOf (agg:Bool) (vs:List Value) (v:Value):Prop:=if agg=true then v= .agg vs.toArray else vs=[v]
theorem oH (v:Value):valOf false [v] v:=rfl
theorem tQ (vs:List Value):valOf true vs (.agg vs.toArray):=rfl
theorem lE {P:Program} {t:TypeId} {agg:Bool} {sz bytes:Nat} {z v:Value} (h:Ty P t agg sz bytes z) (w:World) (a:Addr) (vs:List Value) (hl:vs.length=sz) (hc: ∀ j u,vs[j]? =some u→w.cell? (a.add j)=some u) (hv:valOf agg vs v):(loadVar t a).run P w= .ok v w:=by
 cases agg with
 |true=>
  have zy:v= .agg vs.toArray:=hv;subst zy;subst hl;simp [loadVar,XZ h,eH h,run_loadCells_list (P:=P) (w:=w) a vs hc]
 |false=>
  have zy:vs=[v]:=hv;subst zy;have:=hc 0 v rfl;have ea:a.add 0=a:=by simp [Addr.add]
  rw[ea] at this;simp [loadVar,XZ h,load,km,this]
def aH (b i:Nat):Value:= .pointer (some ⟨b,i,none⟩)
def sF (v:Value) (i sz j:Nat):Addr:=match v with
 | .slice (some a) _ _=>a.add (i*sz+j)
 |_=>default
def bJ (v:Value) (i sz j:Nat):Value:= .pointer (some (sF v i sz j))
theorem addr_add (b i j:Nat):(⟨b,i,none⟩:Addr).add j=⟨b,i+j,none⟩:=by unfold Addr.add;split<;>simp_all
theorem add_add (a:Addr) (i j:Nat) (h:a.spot=none):(a.add i).add j=a.add (i+j):=by
 obtain⟨b,o,s⟩:=a;simp only at h;subst h;rw[addr_add,addr_add,addr_add,b9]
def gM:List Value→Nat→List Value→List Value
 |cs,_,[]=>cs
 |[],_,_=>[]
 |_::cs,0,u::us=>u::gM cs 0 us
 |c::cs,i+1,us=>c::gM cs i us
theorem kH: ∀ (cs:List Value) (i:Nat) (us:List Value),i+us.length≤cs.length→gM cs i us=cs.take i++us++cs.drop (i+us.length):=by
 intro cs;induction cs with
 |nil=>
  intro i us h;have h1:us=[]:=bp (by simp only[gr] at h;omega);subst h1;cases i<;>simp [gM]
 |cons c cs ih=>
  intro i us h;cases us with
  |nil=>cases i<;>simp [gM]
  |cons u us=>
   cases i with
   |zero=>simp only[gM,ih 0 us (by simpa using h)];simp
   |succ i=>
    have:=ih i (u::us) (by simp at h ⊢;omega);simp only[gM,this];simp [Nat.succ_add]
theorem QI: ∀ (cs:List Value) (i:Nat) (us:List Value),(gM cs i us).length=cs.length:=by
 intro cs;induction cs with
 |nil=>intro i us;cases us<;>cases i<;>rfl
 |cons c cs ih=>
  intro i us;cases us with
  |nil=>cases i<;>rfl
  |cons u us=>cases i<;>simp [gM,ih]
section
variable {P:Program} {n:Nat} {F:eE} {H R:List Ent} {o:Oper} {x y z:Operand} {v u z':Value} {T:TypeId}
theorem ME {b i f off fs:Nat} [hf:lX P T f off fs] (ho:o.op= .fieldAddr T x f) (hx:ev F x=some (aH b i)) {k:Nat} (hk:i+off=k):Qt P n o F H (aH b k):=fun a w ha _=>by
 subst hk;have h1:=hf.h;unfold QH at h1;split at h1
 ·rename_i fs' hu;obtain⟨d,hd,e⟩:=dh.1 h1;simp only[de] at e;have hs:0<P.cellsOf d.type:=by rw[e.2];exact hf.pos
  have zy: ∃ i,P.info? d.type=some i∧i.size=P.cellsOf d.type:=by
   unfold Program.cellsOf at hs ⊢;cases hq:P.info? d.type with
   |none=>simp [hq] at hs
   |some i=>exact⟨i,rfl,Ja⟩
  obtain⟨i',zx,zw⟩:=zy;simp [execOp,ho,ha.eval hx,aH,Instr.fieldAt,run_underlying hu,hd,Instr.sureAddr,fieldPlace,sizeOf,typeInfo,zx,zw,e.1,e.2,ks hf.pos,addr_add]
 ·cases h1
theorem MF {i sz j f off fs:Nat} {q:Option Addr} {m c:Nat} [hf:lX P T f off fs] (ho:o.op= .fieldAddr T x f) (hx:ev F x=some (bJ v i sz j)) {k:Nat} (hk:j+off=k) (hv: ∀ w,aG H w→ ∀ a m c,v= .slice (some a) m c→a.spot=none) (hq:v= .slice q m c) (zy: ∀ w,aG H w→q≠none):Qt P n o F H (bJ v i sz k):=fun a w ha hw=>by
 subst hk;have h1:=hf.h;unfold QH at h1;split at h1
 ·rename_i fs' hu;obtain⟨d,hd,e⟩:=dh.1 h1;simp only[de] at e;have hs:0<P.cellsOf d.type:=by rw[e.2];exact hf.pos
  have zx: ∃ i,P.info? d.type=some i∧i.size=P.cellsOf d.type:=by
   unfold Program.cellsOf at hs ⊢;cases hq:P.info? d.type with
   |none=>simp [hq] at hs
   |some i=>exact⟨i,rfl,Ja⟩
  obtain⟨i',zw,zv⟩:=zx;subst hq;cases q with
  |none=>exact absurd rfl (zy w hw)
  |some ad=>
   have zu:=hv w hw ad m c rfl;simp [execOp,ho,ha.eval hx,bJ,sF,Instr.fieldAt,run_underlying hu,hd,Instr.sureAddr,fieldPlace,sizeOf,typeInfo,zw,zv,e.1,e.2,ks hf.pos,add_add ad _ _ zu,b9]
 ·cases h1
theorem tT {b:Nat} {cs:List Value} {t:TypeId} {w:World} (h:(box b cs t).holds w) (i:Nat):w.cell? ⟨b,i,none⟩=cs[i]? :=by
 have h':w.heap[b]? =some (.cells cs.toArray t (0,0)):=h;rw[cell_of_row _ _ _ _ _ _ h'];simp
theorem vG {b i sz by':Nat} {agg:Bool} {cs vs:List Value} {t:TypeId} [ht:Ty P T agg sz by' z'] (ho:o.op= .load T x) (hx:ev F x=some (aH b i)) (p:bQ (box b cs t) H R) (zy:(cs.drop i).take sz=vs) (hl:vs.length=sz) (hv:valOf agg vs v):Qt P n o F H v:=fun a w ha hw=>by
 have hb := hw.1 _ p.mem;have := lE ht w ⟨b, i, none⟩ vs hl (fun j u hj => by
  rw[addr_add,tT hb];subst zy;rw[au] at hj;split at hj
  ·rw[aw] at hj;exact hj
  ·cases hj) hv
 simp [execOp,ho,ha.eval hx,aH,Instr.loadAt,Instr.sureAddr,this]
theorem BK {b sz by':Nat} {cs:List Value} {t:TypeId} [ht:Ty P T true sz by' z'] (ho:o.op= .load T x) (hx:ev F x=some (aH b 0)) (p:bQ (box b cs t) H R) (hl:cs.length=sz):Qt P n o F H (.agg cs.toArray):=
 vG ho hx p (by rw[gx,bd Z8]) hl (tQ cs)
theorem sH {b i by':Nat} {cs:List Value} {t:TypeId} [ht:Ty P T false 1 by' z'] (ho:o.op= .load T x) (hx:ev F x=some (aH b i)) (p:bQ (box b cs t) H R) (hv:cs[i]? =some v):Qt P n o F H v:=
 vG ho hx p (by rw[bh (aj.1 hv).1,(aj.1 hv).2];rfl) rfl (oH v)
theorem acG {w:World} {sz:Nat} {v:Value} {rows:List (List Value)} (h:bX w sz v rows) {i:Nat} {r:List Value} (hr:rows[i]? =some r): ∃ a m c,v= .slice (some a) m c∧a.spot=none∧m=rows.length∧r.length=sz∧ ∀ (j:Nat) (u:Value),r[j]? =some u→w.cell? (sF v i sz j)=some u:=by
 rcases h with⟨rfl,_⟩|⟨b,off,cap,rfl,h1,h2,h3,h4,h5⟩
 ·simp at hr
 ·refine⟨_,_,_,rfl,rfl,rfl,(h5 i r hr).1,fun j u hj=> ?_⟩;have:=(h5 i r hr).2 j u hj;simp only[sF,addr_add];rw[←b9];exact this
theorem atK {i sz s by' j:Nat} {agg:Bool} {rows:List (List Value)} {r vs:List Value} [ht:Ty P T agg s by' z'] (ho:o.op= .load T x) (hx:ev F x=some (bJ u i sz j)) (p:bQ (sl sz u rows) H R) (hr:rows[i]? =some r) (zx:(r.drop j).take s=vs) (hl:vs.length=s) (hv:valOf agg vs v):Qt P n o F H v:=fun a w ha hw=>by
 have hb : bX w sz u rows := hw.1 _ p.mem;obtain ⟨ad, m, c, rfl, zw, _, _, zy⟩ := acG hb hr;have := lE ht w (sF (.slice (some ad) m c) i sz j) vs hl (fun k u hj => by
  subst zx;rw[au] at hj;split at hj
  ·rw[aw] at hj;have:=zy _ _ hj;simp only[sF] at this ⊢;rw[add_add _ _ _ zw,b9];exact this
  ·cases hj) hv
 simp [execOp,ho,ha.eval hx,bJ,Instr.loadAt,Instr.sureAddr,this]
theorem QJ {α:Type} {f:α→List Value} {xs:List α} {q:α} {i sz s by' j:Nat} {agg:Bool} {vs:List Value} [ht:Ty P T agg s by' z'] (ho:o.op= .load T x) (hx:ev F x=some (bJ u i sz j)) (p:bQ (sl sz u (xs.map f)) H R) (hr:xs[i]? =some q) (zy:((f q).drop j).take s=vs) (hl:vs.length=s) (hv:valOf agg vs v):Qt P n o F H v:=
 atK ho hx p (by rw[dp,hr];rfl) zy hl hv
theorem MH {α:Type} {f:α→List Value} {xs:List α} {q:α} {i sz by' j:Nat} [ht:Ty P T false 1 by' z'] (ho:o.op= .load T x) (hx:ev F x=some (bJ u i sz j)) (p:bQ (sl sz u (xs.map f)) H R) (hr:xs[i]? =some q) (hv:(f q)[j]? =some v):Qt P n o F H v:=
 QJ ho hx p hr (by rw[bh (aj.1 hv).1,(aj.1 hv).2];rfl) rfl (oH v)
theorem MI {α:Type} {f:α→List Value} {xs:List α} {q:α} {i sz by':Nat} [ht:Ty P T true sz by' z'] (ho:o.op= .load T x) (hx:ev F x=some (bJ u i sz 0)) (p:bQ (sl sz u (xs.map f)) H R) (hr:xs[i]? =some q) (hl:(f q).length=sz):Qt P n o F H (.agg (f q).toArray):=
 QJ ho hx p hr (by rw[gx,bd Z8]) hl (tQ _)
theorem EC {w:World} {B e sz m:Nat} {v:Value} {xs:List Value} (h:w.ownsRow B e sz v m xs) {i j:Nat} {u:Value} (hj:xs[i*sz+j]? =some u): ∃ g c,v= .slice (some ⟨g,0,none⟩) m c∧w.cell? (sF v i sz j)=some u:=by
 have hl:=(aj.1 hj).1;rcases h.2 with⟨rfl,h0⟩|⟨g,cap,cur,rfl,hb,hg,h1,h2,h3,h4⟩
 ·rw[h.1,h0] at hl;simp at hl
 ·refine⟨g,cap,rfl, ?_⟩;simp only[sF,addr_add,dj];rw[cell_of_row _ _ _ _ _ _ hg, ←jc];rw[←h4,au] at hj;split at hj
  ·exact hj
  ·cases hj
theorem alU {i sz s by' j m e:Nat} {agg:Bool} {xs vs:List Value} [ht:Ty P T agg s by' z'] (ho:o.op= .load T x) (hx:ev F x=some (bJ u i sz j)) (p:bQ (own u e sz m xs) H R) (zx:(xs.drop (i*sz+j)).take s=vs) (hl:vs.length=s) (hs:0<s) (hv:valOf agg vs v):Qt P n o F H v:=fun a w ha hw=>by
 have hb:w.ownsRow 0 e sz u m xs:=hw.1 _ p.mem;have hc: ∀ k u',vs[k]? =some u'→xs[i*sz+(j+k)]? =some u':=fun k u' hj=>by
  subst zx;rw[au] at hj;split at hj
  ·rw[aw] at hj;rw[←b9];exact hj
  ·cases hj
 obtain ⟨g, c, rfl, _⟩ := EC hb (hc 0 _ (ak Z8));have := lE ht w (sF (.slice (some ⟨g, 0, none⟩) m c) i sz j) vs hl (fun k u' hj => by
  obtain ⟨g', c', e', zy⟩ := EC hb (hc k u' hj);simp only [sF] at zy ⊢;rw [add_add _ _ _ rfl, b9];exact zy) hv
 simp [execOp,ho,ha.eval hx,bJ,Instr.loadAt,Instr.sureAddr,this]
theorem atL {α:Type} {f:α→List Value} {sz:Nat} (hf: ∀ x,(f x).length=sz) {ys:List α} {i:Nat} {q:α} (hq:ys[i]? =some q) {j s:Nat} (h:j+s≤sz):((flat f ys).drop (i*sz+j)).take s=((f q).drop j).take s:=by
 apply ep;intro k;rw[au,au];split
 ·rw[aw,aw,b9];obtain⟨u,hu⟩: ∃ u,(f q)[j+k]? =some u:=⟨_,ak (by rw[hf];omega)⟩;rw[hu,qD f sz hf ys i q hq (j+k) u hu]
 ·rfl
theorem MJ {α:Type} {f:α→List Value} {ys:List α} {q:α} {i sz s by' j m e:Nat} {agg:Bool} {vs:List Value} [ht:Ty P T agg s by' z'] (ho:o.op= .load T x) (hx:ev F x=some (bJ u i sz j)) (p:bQ (own u e sz m (flat f ys)) H R) (hf: ∀ x,(f x).length=sz) (hr:ys[i]? =some q) (zy:((f q).drop j).take s=vs) (hl:vs.length=s) (hs:0<s) (hv:valOf agg vs v):Qt P n o F H v:=by
 refine alU ho hx p ?_ hl hs hv;have h9:j+s≤sz:=by
  have:=congrArg List.length zy;rw[ar,bq,hf,hl] at this;omega
 rw[atL hf hr h9,zy]
theorem ED {α:Type} {f:α→List Value} {ys:List α} {q:α} {i sz by' j m e:Nat} [ht:Ty P T false 1 by' z'] (ho:o.op= .load T x) (hx:ev F x=some (bJ u i sz j)) (p:bQ (own u e sz m (flat f ys)) H R) (hf: ∀ x,(f x).length=sz) (hr:ys[i]? =some q) (hv:(f q)[j]? =some v):Qt P n o F H v:=
 MJ ho hx p hf hr (by rw[bh (aj.1 hv).1,(aj.1 hv).2];rfl) (vs:=[v]) rfl Nat.zero_lt_one (oH v)
theorem EE {α:Type} {f:α→List Value} {ys:List α} {q:α} {i sz by' m e:Nat} [ht:Ty P T true sz by' z'] (ho:o.op= .load T x) (hx:ev F x=some (bJ u i sz 0)) (p:bQ (own u e sz m (flat f ys)) H R) (hf: ∀ x,(f x).length=sz) (hr:ys[i]? =some q) (hs:ao 0 sz=true):Qt P n o F H (.agg (f q).toArray):=
 MJ ho hx p hf hr (by rw[gx,bd (by rw[hf];omega)]) (hf q) (by simpa using hs) (tQ _)
theorem IW {t e:TypeId} {ad:Addr} {m c i:Nat} {k:IntKind} {sz:Nat} [ht:pD P t e] {agg:Bool} {by':Nat} [hs:Ty P e agg sz by' z'] (hi:i<m) (w:World):(Instr.indexAt t (.slice (some ad) m c) (.int k (i:Int))).run P w= .ok (.pointer (some (ad.add (i*sz)))) w:=by
 have h1:(0:Int)≤(i:Int)∧(i:Int)<(m:Int):=Z8
 simp only[Instr.indexAt,asIntOf,run_underlying ht.h,ab,ah,aa,Jg h1,eH hs,dc]
theorem lF {t e sz i by':Nat} {k:IntKind} {idx:Int} {agg:Bool} {rows:List (List Value)} [ht:pD P t e] [hs:Ty P e agg sz by' z'] (ho:o.op= .indexAddr t x y) (hx:ev F x=some v) (hy:ev F y=some (.int k idx)) (p:bQ (sl sz v rows) H R) (zy:idx=(i:Int)) (hi:i<rows.length):Qt P n o F H (bJ v i sz 0):=fun a w ha hw=>by
 subst zy;have hb:bX w sz v rows:=hw.1 _ p.mem;obtain⟨ad,m,c,rfl,hsp,rfl,_⟩:=acG hb (ak hi);simp only[execOp,ho,ha.eval hx,ha.eval hy,ab,ah,aa,IW (P:=P) (t:=t) hi,bJ,sF,fl]
theorem cE {t e e' sz i m by':Nat} {k:IntKind} {idx:Int} {agg:Bool} {xs:List Value} [ht:pD P t e] [hs:Ty P e agg sz by' z'] (ho:o.op= .indexAddr t x y) (hx:ev F x=some v) (hy:ev F y=some (.int k idx)) (p:bQ (own v e' sz m xs) H R) (zy:idx=(i:Int)) (hi:i<m):Qt P n o F H (bJ v i sz 0):=fun a w ha hw=>by
 subst zy;have hb:w.ownsRow 0 e' sz v m xs:=hw.1 _ p.mem;rcases hb.2 with⟨_,h0⟩|⟨g,cap,cur,rfl,_⟩
 ·omega
 ·simp only[execOp,ho,ha.eval hx,ha.eval hy,ab,ah,aa,IW (P:=P) (t:=t) hi,bJ,sF,fl]
theorem ML {t e m c:Nat} {q:Option Addr} [ht:pD P t e] (ho:o.op= .call { callee:= .builtin .len,args:= #[x],argTypes:= #[t] }) (hx:ev F x=some (.slice q m c)):Qt P n o F H (.int .i64 (m:Int)):=fun a w ha hw=>by
 simp [execOp,ho,resolve,invoke,builtin,ha.eval hx,kt,run_underlying ht.h,ab,goInt]
theorem IY {t:Nat} {s:ByteArray} [ht:EB P t] (ho:o.op= .call { callee:= .builtin .len,args:= #[x],argTypes:= #[t] }) (hx:ev F x=some (.string s)):Qt P n o F H (.int .i64 (s.size:Int)):=fun a w ha hw=>by
 simp [execOp,ho,resolve,invoke,builtin,ha.eval hx,kt,run_underlying ht.h,ab,goInt]
theorem MM {t e m c:Nat} {q:Option Addr} [ht:pD P t e] (ho:o.op= .call { callee:= .builtin .cap,args:= #[x],argTypes:= #[t] }) (hx:ev F x=some (.slice q m c)):Qt P n o F H (.int .i64 (c:Int)):=fun a w ha hw=>by
 simp [execOp,ho,resolve,invoke,builtin,ha.eval hx,Builtin.cap_,run_underlying ht.h,ab,goInt]
theorem aPA {t:Nat} {k:IntKind} {i j:Int} (ho:o.op= .call { callee:= .builtin .min,args:= #[x,y],argTypes:= #[t,t] }) (hx:ev F x=some (.int k i)) (hy:ev F y=some (.int k j)):Qt P n o F H (.int k (min i j)):=fun a w ha hw=>by
 simp [execOp,ho,resolve,invoke,builtin,ha.eval hx,ha.eval hy,Builtin.min_,Builtin.min2,acB]
theorem alV {a':Addr} (ho:o.op= .nilCheck x) (hx:ev F x=some (.pointer (some a'))):Qt P n o F H (.pointer (some a')):=fun a w ha hw=>by
 simp [execOp,ho,ha.eval hx]
theorem IZ {s t:ByteArray} {T T':TypeId} (ho:o.op= .binOp .eql T x y T') (hx:ev F x=some (.string s)) (hy:ev F y=some (.string t)):Qt P n o F H (.bool (s.toList==t.toList)):=fun a w ha hw=>by
 simp [execOp,ho,ha.eval hx,ha.eval hy,eqGuard,binOp,Op.stringOp]
theorem JA {s t:ByteArray} {T T':TypeId} (ho:o.op= .binOp .neq T x y T') (hx:ev F x=some (.string s)) (hy:ev F y=some (.string t)):Qt P n o F H (.bool (!(s.toList==t.toList))):=fun a w ha hw=>by
 simp [execOp,ho,ha.eval hx,ha.eval hy,eqGuard,binOp,Op.stringOp]
theorem fZ (w:World) (ob:Obj):oB (fun _=>False) w (w.alloc ob):=⟨rfl,rfl,rfl,Ja,fun b hb _=>heap_alloc_old w ob hb⟩
theorem aqG {us:List Value} (ho:o.op= .box T x) (hx:ev F x=some v) (zy:v.cells=us.toArray):cN P n o F H fun u H'=> ∃ b,u=aH b 0∧H'=box b us T::H:=fun Q a w next ha hw hn=>by
 unfold bj;simp only[execOp,ho,ha.eval hx,Instr.box,newVar,newRow,newObj,ab,km,ah,aa,bf];refine hn _ _ _ ⟨w.heap.size,rfl,rfl⟩ (aG.new hw (fZ w (.cells v.cells T)) ?_ fun b hb=>by (have:b=w.heap.size:=hb);omega);show (w.alloc (.cells v.cells T)).heap[w.heap.size]? =_;rw[heap_alloc_new,zy]
theorem sJ {us:List Value} (ho:o.op= .box T x) (hx:ev F x=some (.agg us.toArray)):cN P n o F H fun u H'=> ∃ b,u=aH b 0∧H'=box b us T::H:=aqG ho hx rfl
theorem YA {v:Value} (h:v.oneCell'=true):v.cells= #[v]:=by cases v<;>first|rfl|(simp [a6] at h)
theorem sK (ho:o.op= .box T x) (hx:ev F x=some v) (hv:v.oneCell'=true):cN P n o F H fun u H'=> ∃ b,u=aH b 0∧H'=box b [v] T::H:=aqG ho hx (YA hv)
theorem atM {us:List Value} {agg:Bool} {sz by':Nat} [ht:Ty P T agg sz by' z'] (ho:o.op= .alloc T) (zy:z'.cells=us.toArray):cN P n o F H fun u H'=> ∃ b,u=aH b 0∧H'=box b us T::H:=fun Q a w next ha hw hn=>by
 unfold bj;simp only[execOp,ho,Instr.alloc,rB ht,newVar,newRow,newObj,ab,km,ah,aa,bf];refine hn _ _ _ ⟨w.heap.size,rfl,rfl⟩ (aG.new hw (fZ w (.cells z'.cells T)) ?_ fun b hb=>by (have:b=w.heap.size:=hb);omega);show (w.alloc (.cells z'.cells T)).heap[w.heap.size]? =_;rw[heap_alloc_new,zy]
theorem gV {us:List Value} [hz:Zr P T us] (ho:o.op= .alloc T):cN P n o F H fun u H'=> ∃ b,u=aH b 0∧H'=box b us T::H:=by
 obtain⟨agg,sz,by',z,ht,hc⟩:=hz.h;exact atM (ht:=ht) ho hc
theorem qF (w:World) (g:Nat) (cs:Array Value) (S:Nat→Prop) (hS:S g):oB S w (w.setRow g cs):=⟨rfl,rfl,rfl,by simp [ie],fun b _ hb=>setRow_other w g b cs (fun e=>hb (e ▸ hS))⟩
theorem YB {agg:Bool} {sz by':Nat} (ht:Ty P T agg sz by' z') (w:World) (g off:Nat) (t:TypeId) (cs us:List Value) (hg:w.heap[g]? =some (.cells cs.toArray t (0,0))) (zx:v.cells=us.toArray) (hl:us.length=sz) (zy:off+us.length≤cs.length) (h1: ∀ u∈us,u.oneCell'=true):(storeVar T ⟨g,off,none⟩ v).run P w= .ok () (w.setRow g (gM cs off us).toArray):=by
 have hst:=run_storeCells_at P g off t us 0 cs.toArray w hg (by simpa using zy) h1;simp only[fl] at hst;rw[kH cs off us zy];subst hl;simp only[storeVar,zx,eH ht,ab,aa,dq,ne_eq,not_true_eq_false,if_false];simpa using hst
theorem AN {agg:Bool} {sz by':Nat} [ht:Ty P T agg sz by' z'] {b i:Nat} {cs us cs':List Value} {t:TypeId} (ho:o.op= .store T x y) (hx:ev F x=some (aH b i)) (hy:ev F y=some v) (zw:v.cells=us.toArray) (p:bQ (box b cs t) H R) (hl:us.length=sz) (zy:gj (i+us.length) cs.length=true) (h1:us.all (·.oneCell')=true) (zv:gM cs i us=cs'):cN P n o F H fun u H'=>u=undef∧H'=box b cs' t::R:=fun Q a w next ha hw hn=>by
 subst zv;have zx:=hw.perm p.perm;have hb:=zx.head;have:=YB ht w b i t cs us hb zw hl (ay zy) (fun u hu=>iq.1 h1 u hu);unfold bj;simp only[execOp,ho,ha.eval hx,ha.eval hy,aH,Instr.storeAt,Instr.sureAddr,ab,ah,aa,this,bf];exact hn _ _ _ ⟨rfl,rfl⟩ (aG.qO zx rfl (qF w b _ _ rfl) (setRow_heap w b _ _ t _ hb) fun k hk=> .inl hk)
theorem dR {sz by':Nat} [ht:Ty P T true sz by' z'] {b i:Nat} {cs us cs':List Value} {t:TypeId} (ho:o.op= .store T x y) (hx:ev F x=some (aH b i)) (hy:ev F y=some (.agg us.toArray)) (p:bQ (box b cs t) H R) (hl:us.length=sz) (zy:gj (i+us.length) cs.length=true) (h1:us.all (·.oneCell')=true) (zx:gM cs i us=cs'):cN P n o F H fun u H'=>u=undef∧H'=box b cs' t::R:=AN ho hx hy rfl p hl zy h1 zx
theorem cR {by':Nat} [ht:Ty P T false 1 by' z'] {b i:Nat} {cs cs':List Value} {t:TypeId} (ho:o.op= .store T x y) (hx:ev F x=some (aH b i)) (hy:ev F y=some v) (h1:v.oneCell'=true) (p:bQ (box b cs t) H R) (zy:ao i cs.length=true) (zx:cs.set i v=cs'):cN P n o F H fun u H'=>u=undef∧H'=box b cs' t::R:=by
 have hlt:i<cs.length:=by simpa using zy
 refine AN ho hx hy (us:=[v]) (YA h1) p rfl (jd (by simp only[gk];omega)) (by simp [h1]) ?_;rw[←zx,kH _ _ _ (by simp only[gk];omega),fw,Jg hlt];simp
theorem WW {agg:Bool} {sz s by':Nat} [ht:Ty P T agg s by' z'] {i j m e:Nat} {xs us xs':List Value} (ho:o.op= .store T x y) (hx:ev F x=some (bJ v i sz j)) (hy:ev F y=some u) (zw:u.cells=us.toArray) (p:bQ (own v e sz m xs) H R) (hl:us.length=s) (hm:i<m) (hfit:j+us.length≤sz) (h1:us.all (·.oneCell')=true) (zv:gM xs (i*sz+j) us=xs'):cN P n o F H fun u H'=>u=undef∧H'=own v e sz m xs'::R:=fun Q a w next ha hw hn=>by
 subst zv;have zx:=hw.perm p.perm;have hb:w.ownsRow 0 e sz v m xs:=zx.head;rcases hb.2 with⟨_,h0⟩|⟨g,cap,cur,rfl,zu,hg,h2,h3,h4,h5⟩
 ·omega
 ·have hmi:i*sz+sz≤m*sz:=by
   have h9:(i+1)*sz≤m*sz:=cr _ hm;rw[ff,ix] at h9;exact h9
  have hmc:m*sz≤cap*sz:=cr _ h2;have hcl0:cur.toList.length=cap*sz:=by simpa using h4
  have hle:i*sz+j+us.length≤cur.toList.length:=Z8
  have zy:i*sz+j+us.length≤xs.length:=by rw[hb.1];omega
  have:=YB (v:=u) ht w g (i*sz+j) e cur.toList us (by simpa using hg) zw hl hle (fun u hu=>iq.1 h1 u hu);unfold bj;simp only[execOp,ho,ha.eval hx,ha.eval hy,bJ,sF,addr_add,dj,Instr.storeAt,Instr.sureAddr,ab,ah,aa,this,bf];refine hn _ _ _ ⟨rfl,rfl⟩ (aG.qO zx rfl (qF w g _ _ rfl) ⟨by rw[QI];exact hb.1, .inr ⟨g,cap,_,rfl,zu,setRow_heap w g _ _ e _ hg,h2,h3, ?_, ?_⟩⟩ fun k hk=> .inl hk)
  ·simp only[dq,QI,fg];exact h4
  ·have hxl:xs.length=m*sz:=hb.1;rw[kH _ _ _ hle,kH _ _ _ zy, ←h5];apply ep;intro k;have zt:cur.toList.length=cap*sz:=by simpa using h4
   simp only[au,dr,ae,ar,aw];rw[zt]
   repeat' split
   all_goals (first|rfl|omega|(congr 1;omega))
theorem afM {α:Type} {f:α→List Value} {sz:Nat} (hf: ∀ x,(f x).length=sz) {ys:List α} {i:Nat} {q q':α} (hq:ys[i]? =some q) {j:Nat} {us:List Value} (hfit:j+us.length≤sz) (h:gM (f q) j us=f q'):gM (flat f ys) (i*sz+j) us=flat f (ys.set i q'):=by
 have hi:=(aj.1 hq).1;have hmi:i*sz+sz≤ys.length*sz:=by
  have h9:(i+1)*sz≤ys.length*sz:=cr _ hi;rw[ff,ix] at h9;exact h9
 rw[kH _ _ _ (by rw[lZ f sz hf];omega)];rw[kH _ _ _ (by rw[hf];omega)] at h;apply ep;intro k;by_cases hk:k<ys.length*sz
 ·have hsz:0<sz:=by rcases jo sz with h0|h0;(subst h0;simp at hk);exact h0
  have zq:k/sz<ys.length:=(eu hsz).2 hk;have zv:k%sz<sz:=jf _ hsz;have zy:k/sz*sz+k%sz=k:=by rw[ij];exact gq k sz
  obtain⟨y0,zx⟩: ∃ y0,ys[k/sz]? =some y0:=⟨_,ak zq⟩;by_cases zr:k/sz=i
  ·rw[zr] at zx zy;have:(ys.set i q')[i]? =some q':=by rw[ic];simp [hi]
   obtain⟨u,hu⟩: ∃ u,(f q')[k%sz]? =some u:=⟨_,ak (by rw[hf];exact zv)⟩;have e1:=qD f sz hf (ys.set i q') i q' this (k%sz) u hu;rw[zy] at e1;rw[e1, ←hu, ←h];have zn:q=y0:=by rw[hq] at zx;exact a7 zx
   subst zn;obtain⟨u0,zu⟩: ∃ u,(f q)[k%sz]? =some u:=⟨_,ak (by rw[hf];exact zv)⟩;have e0:=qD f sz hf ys i q hq (k%sz) u0 zu;rw[zy] at e0;have zw:(flat f ys).length=ys.length*sz:=lZ f sz hf ys;have zm:(f q).length=sz:=hf q;simp only[dr,ae,ar,au,aw,zw,zm];have hkk:k=i*sz+k%sz:=zy.symm;by_cases c1:k%sz<j
   ·rw[Jg Z8,Jg Z8,Jg Z8,Jg Z8,Jg Z8,Jg Z8,e0,zu]
   ·by_cases c2:k%sz<j+us.length
    ·rw[Jg Z8,Jf Z8,Jg Z8,Jf Z8];congr 1;omega
    ·rw[Jf Z8,Jf Z8];rw[show i*sz+j+us.length+(k-(min (i*sz+j) (ys.length*sz)+us.length))=k from by omega,show j+us.length+(k%sz-(min j sz+us.length))=k%sz from by omega,e0,zu]
  ·have:(ys.set i q')[k/sz]? =some y0:=by rw[ic,Jf (Ne.symm zr)];exact zx
   obtain⟨u,hu⟩: ∃ u,(f y0)[k%sz]? =some u:=⟨_,ak (by rw[hf];exact zv)⟩;have e1:=qD f sz hf (ys.set i q') (k/sz) y0 this (k%sz) u hu;have e0:=qD f sz hf ys (k/sz) y0 zx (k%sz) u hu;rw[zy] at e0 e1;rw[e1];have zw:(flat f ys).length=ys.length*sz:=lZ f sz hf ys;simp only[dr,ae,ar,au,aw,zw];have zt:k<i*sz∨i*sz+sz≤k:=by
    rcases ig (k/sz) i with h1|h1
    ·left;have h9:(k/sz+1)*sz≤i*sz:=cr _ h1;rw[ff,ix] at h9;omega
    ·right;have h9:(i+1)*sz≤k/sz*sz:=cr _ Z8;rw[ff,ix] at h9;omega
   rcases zt with zt|zt
   ·rw[Jg Z8,Jg Z8,Jg Z8,e0]
   ·rw[Jf Z8,show i*sz+j+us.length+(k-(min (i*sz+j) (ys.length*sz)+us.length))=k from by omega,e0]
 ·have e1:(flat f (ys.set i q'))[k]? =none:=je (by rw[lZ f sz hf];simp;omega);rw[e1];apply je;have zw:(flat f ys).length=ys.length*sz:=lZ f sz hf ys;simp only[ae,ar,bq,zw];omega
theorem aI {α:Type} {f:α→List Value} {ys:List α} {q q':α} {agg:Bool} {sz s by':Nat} [ht:Ty P T agg s by' z'] {i j m e:Nat} {us:List Value} (ho:o.op= .store T x y) (hx:ev F x=some (bJ v i sz j)) (hy:ev F y=some u) (zx:u.cells=us.toArray) (p:bQ (own v e sz m (flat f ys)) H R) (hl:us.length=s) (hm:i<m) (hf: ∀ x,(f x).length=sz) (hq:ys[i]? =some q) (zy:gj (j+us.length) sz=true) (h1:us.all (·.oneCell')=true) (zw:gM (f q) j us=f q'):cN P n o F H fun u H'=>u=undef∧H'=own v e sz m (flat f (ys.set i q'))::R:=
 WW ho hx hy zx p hl hm (ay zy) h1 (afM hf hq (ay zy) zw)
theorem qQ {w:World} {B e sz m:Nat} {v:Value} {xs:List Value} (h:w.ownsRow B e sz v m xs): ∃ q cap,v= .slice q m cap:=by
 rcases h.2 with⟨rfl,rfl⟩|⟨g,cap,cur,rfl,_⟩
 ·exact⟨_,_,rfl⟩
 ·exact⟨_,_,rfl⟩
theorem afN {w w':World} {v:Value} (h:w.grownBy w' v.ownBlock):oB (fun k=>v.ownBlock=some k) w w':=⟨h.os,h.tape,h.output,h.size,fun b hb hn=>h.block b hb fun e=>hn e.symm⟩
theorem EG {e sz by':Nat} {t:TypeId} (hT:kS P t e sz by' z') {w:World} (ty:TypeId) {α:Type} (f:α→List Value) (hf: ∀ y,(f y).length=sz) (hf1: ∀ y, ∀ u∈f y,u.oneCell'=true) (v u:Value) (m:Nat) (xs:List Value) (ys:List α) (zy:w.ownsRow 0 e sz v m xs) (zt:bX w sz u (ys.map f)) (zx:(m+ys.length)*by'≤140737488355328) (h63:m+ys.length≤maxLen): ∃ v' w',(dm #[t,t] ty #[v,u]).run P w= .ok v' w'∧w'.ownsRow 0 e sz v' (m+ys.length) (xs++flat f ys)∧w.grownBy w' v.ownBlock∧(v'.ownBlock=v.ownBlock∨v'.ownBlock=some w.heap.size):=by
 by_cases zw:u= .slice none 0 0
 ·subst zw;have h0:ys=[]:=by
   rcases zt with⟨h0,_⟩|⟨b,off,cap,h0,_⟩
   ·simpa using h0
   ·simp at h0
  subst h0;exact⟨v,w,wN hT zy,by simpa [flat] using zy,BI _ _, .inl rfl⟩
 ·obtain⟨h1,h2,h3,i,zj,zh,zg,zf⟩:=hT;obtain⟨q,cap,b,off,rfl,hq,hc⟩:=zt.view;simp only[gp] at hq zw ⊢;have ze: ∃ ad,q=some ad:=by
   cases q with
   |some ad=>exact⟨ad,rfl⟩
   |none=>
    exfalso;rcases zt with⟨h0,hv⟩|⟨b,off,cap,h0,_⟩
    ·have h9:ys=[]:=by simpa using h0
     subst h9;rcases hv with hv|⟨_,_,hv⟩
     ·simp at hv;subst hv;exact zw rfl
     ·simp at hv
    ·simp at h0
  obtain⟨ad,rfl⟩:=ze;have zv: ∀ j y,(flat f ys)[j]? =some y→w.cell? (ad.add j)=some y:=by
   intro j y hj;have zn:=(aj.1 hj).1;rw[lZ f sz hf] at zn;have hi:j/sz<ys.length:=(eu h3).2 zn;have hm:j%sz<sz:=jf _ h3;obtain⟨y0,zm⟩: ∃ y0,ys[j/sz]? =some y0:=⟨_,ak hi⟩;obtain⟨u,hu⟩: ∃ u,(f y0)[j%sz]? =some u:=⟨_,ak (by rw[hf];exact hm)⟩;have zl:=qD f sz hf ys (j/sz) y0 zm (j%sz) u hu;have zk:j/sz*sz+j%sz=j:=by rw[ij];exact gq j sz
   rw[zk,hj] at zl;have zb:=a7 zl;subst zb;obtain⟨za,_⟩:=hq (j/sz) hi;have zr:=a7 za;subst zr;have zu:=hc (j/sz) (f y0) (by rw[dp,zm];rfl) (j%sz) y hu;rw[addr_add, ←zk, ←b9];exact zu
  have zq: ∀ u∈flat f ys,u.oneCell'=true:=by
   intro u hu;unfold flat at hu;obtain⟨l,hl,z8⟩:=j5.1 hu;obtain⟨y,_,rfl⟩:=fa.1 hl;exact hf1 y u z8
  obtain⟨v',w',hr,g1,g2,_,g3⟩:=run_append_own_at (P:=P) (w:=w) 0 t ty e i z' sz by' h1 zj zh zg zf h2 h3 v m xs zy ad ys.length cap (flat f ys) (lZ f sz hf ys) zv zq h63 zx (fe _)
  exact⟨v',w',hr,g1,g2,g3⟩
theorem vH {t e sz by':Nat} {agg:Bool} (ht:pD P t e) (hs:Ty P e agg sz by' z') (hp:ao 0 sz=true):kS P t e sz by' z':=by
 obtain⟨i,d,hi,_,_,h1,h2,h3⟩:=hs.info;exact⟨ht.h,hs.hz,by simpa using hp,i,hi,h3,h1,h2⟩
theorem tU {w w':World} {v v':Value} {e sz m m':Nat} {xs xs':List Value} (hw:aG (own v e sz m xs::R) w) (hg:w.grownBy w' v.ownBlock) (hn:w'.ownsRow 0 e sz v' m' xs') (hb:v'.ownBlock=v.ownBlock∨v'.ownBlock=some w.heap.size):aG (own v' e sz m' xs'::R) w':=
 aG.qO hw rfl (afN hg) hn fun b zx=>by
  have zy:v'.ownBlock=some b:=zx;rcases hb with h|h
  ·exact .inl (show v.ownBlock=some b from h.symm.trans zy)
  ·rw[h] at zy;have:=a7 zy;exact .inr Z8
theorem jA {t e sz by' m cnt:Nat} {agg:Bool} [ht:pD P t e] [hs:Ty P e agg sz by' z'] {α:Type} {f:α→List Value} {ys:List α} {xs:List Value} (ho:o.op= .call { callee:= .builtin .append,args:= #[x,y],argTypes:= #[t,t] }) (hx:ev F x=some v) (hy:ev F y=some u)
  (p:bQ (own v e sz m xs) H R) {S:List Ent} (q:bQ (sl sz u (ys.map f)) R S) (hf: ∀ y,(f y).length=sz) (hf1: ∀ y, ∀ u∈f y,u.oneCell'=true) (hsz:ao 0 sz=true) (hb:(m+ys.length)*by'≤140737488355328) (h63:m+ys.length≤maxLen):
  cN P n o F H fun r H'=> ∃ q' cap',r= .slice q' (m+ys.length) cap'∧H'=own (.slice q' (m+ys.length) cap') e sz (m+ys.length) (xs++flat f ys)::R:=fun Q a w next ha hw hn=>by
 have zy:=hw.perm p.perm;obtain⟨v',w',hr,g1,g2,g3⟩:=EG (vH ht hs hsz) o.type f hf hf1 v u m xs ys zy.head (zy.tail.1 _ q.mem) hb h63;obtain⟨q',cap',rfl⟩:=qQ g1;unfold bj;simp only[execOp,ho,resolve,invoke,builtin,fc,gd,gu,ha.eval hx,ha.eval hy,ab,ah,aa,hr,bf];exact hn _ _ _ ⟨q',cap',rfl,rfl⟩ (tU zy g2 g1 g3)
theorem aJO (w:World) (e sz:Nat):w.ownsRow 0 e sz (.slice none 0 0) 0 []:=World.ownsRow_nil _ _ _ _
theorem aS (H:List Ent) (e sz:Nat):HSub H (own (.slice none 0 0) e sz 0 []::H):=fun w h=>by
 refine⟨fun f hf=> ?_,an.2 ⟨fun f hf _ b h1 _=>(by cases h1),h.2⟩⟩;rcases al.1 hf with rfl|hf
 ·exact aJO w e sz
 ·exact h.1 f hf
theorem dV {t e sz by':Nat} {agg:Bool} [ht:pD P t e] [hs:Ty P e agg sz by' z'] {α:Type} {f:α→List Value} {ys:List α} (ho:o.op= .call { callee:= .builtin .append,args:= #[x,y],argTypes:= #[t,t] }) (hx:ev F x=some (.slice none 0 0)) (hy:ev F y=some u)
  (q:bQ (sl sz u (ys.map f)) H R) (hf: ∀ y,(f y).length=sz) (hf1: ∀ y, ∀ u∈f y,u.oneCell'=true) (hsz:ao 0 sz=true) (hb:ys.length*by'≤140737488355328) (h63:ys.length≤maxLen):
  cN P n o F H fun r H'=> ∃ q' cap',r= .slice q' ys.length cap'∧H'=own (.slice q' ys.length cap') e sz ys.length (flat f ys)::H:=fun Q a w next ha hw hn=>by
 have zy:=aS H e sz w hw;obtain⟨v',w',hr,g1,g2,g3⟩:=EG (vH ht hs hsz) o.type f hf hf1 (.slice none 0 0) u 0 [] ys zy.head (hw.1 _ q.mem) (by rw[dj];exact hb) (by rw[dj];exact h63);rw[dj,dz] at g1;obtain⟨q',cap',rfl⟩:=qQ g1;unfold bj;simp only[execOp,ho,resolve,invoke,builtin,fc,gd,gu,ha.eval hx,ha.eval hy,ab,ah,aa,hr,bf];exact hn _ _ _ ⟨q',cap',rfl,rfl⟩ (tU zy g2 g1 g3)
theorem afO {α:Type} (f:α→List Value) (xs ys:List α):flat f xs++flat f ys=flat f (xs++ys):=by simp [flat]
theorem wU {t e e' sz by' m cnt:Nat} {agg:Bool} [ht:pD P t e] [hs:Ty P e agg sz by' z'] {α:Type} (f:α→List Value) (ys:List α) {zs:List α} {news:List Value} (ho:o.op= .call { callee:= .builtin .append,args:= #[x,y],argTypes:= #[t,t] }) (hx:ev F x=some v) (hy:ev F y=some u)
  (p:bQ (own v e sz m (flat f zs)) H R) {S:List Ent} (q:bQ (own u e' sz cnt news) R S) (hn:news=flat f ys) (hc:cnt=ys.length) (hm:m=zs.length) (hf: ∀ y,(f y).length=sz) (hf1: ∀ y, ∀ u∈f y,u.oneCell'=true) (hsz:ao 0 sz=true) (hb:(zs.length+ys.length)*by'≤140737488355328) (h63:zs.length+ys.length≤maxLen):
  cN P n o F H fun r H'=> ∃ q' cap',r= .slice q' (zs++ys).length cap'∧H'=own (.slice q' (zs++ys).length cap') e sz (zs++ys).length (flat f (zs++ys))::S:=fun Q a w next ha hw zx=>by
 have zy:=hw.perm p.perm;subst hn;subst hm;have hu:bX w sz u (ys.map f):=vE hf hc (zy.tail.1 _ q.mem);obtain⟨v',w',hr,g1,g2,g3⟩:=EG (vH ht hs hsz) o.type f hf hf1 v u zs.length (flat f zs) ys zy.head hu hb h63;rw[afO, ←ae] at g1;obtain⟨q',cap',rfl⟩:=qQ g1;unfold bj;simp only[execOp,ho,resolve,invoke,builtin,fc,gd,gu,ha.eval hx,ha.eval hy,ab,ah,aa,hr,bf];have h9:=tU zy g2 g1 g3;refine zx _ _ _ ⟨q',cap',rfl,rfl⟩ ?_;exact (h9.perm ((q.perm.cons _).trans (kj _ _ _))).tail
theorem OD {t e e' sz by' cnt:Nat} {agg:Bool} [ht:pD P t e] [hs:Ty P e agg sz by' z'] {α:Type} (f:α→List Value) (ys:List α) {news:List Value} (ho:o.op= .call { callee:= .builtin .append,args:= #[x,y],argTypes:= #[t,t] }) (hx:ev F x=some (.slice none 0 0)) (hy:ev F y=some u)
  (q:bQ (own u e' sz cnt news) H R) (hn:news=flat f ys) (hc:cnt=ys.length) (hf: ∀ y,(f y).length=sz) (hf1: ∀ y, ∀ u∈f y,u.oneCell'=true) (hsz:ao 0 sz=true) (hb:ys.length*by'≤140737488355328) (h63:ys.length≤maxLen):
  cN P n o F H fun r H'=> ∃ q' cap',r= .slice q' ys.length cap'∧H'=own (.slice q' ys.length cap') e sz ys.length (flat f ys)::R:=fun Q a w next ha hw zy=>
 wU (H:=own (.slice none 0 0) e sz 0 []::H) (zs:=[]) f ys ho hx hy (.here) q hn hc rfl hf hf1 hsz (by simpa using hb) (by simpa using h63) Q a w next ha (aS H e sz w hw) zy
theorem aJP {e sz m:Nat} {α:Type} {f:α→List Value} {ys:List α} {v:Value} (p:bQ (own v e sz m (flat f ys)) H R) (hf: ∀ y,(f y).length=sz) (hm:m=ys.length):HSub H (sl sz v (ys.map f)::R):=fun w hw=>by
 have zy:=hw.perm p.perm;refine aG.alR zy (fun h=>by cases h) (vE hf hm zy.head) fun b hb=>hb.2
def aAS (P:Program) (t:TypeId):Option (Value×List (Nat×Nat)):=
 match P.info? t,P.underlying t with
 |some it,some (.struct fields)=>
  match it.zero,fields.toList.mapM (fun f=>(P.info? f.type).map fun i=>(f.offset,i.size)) with
  |some z,some places=>some (z,places)
  |_,_=>none
 |_,_=>none
class WT (P:Program) (t:TypeId) (z:outParam Value) (pl:outParam (List (Nat×Nat))):Prop where
 h:aAS P t=some (z,pl)
inductive Bld (pl:Nat→Option (Nat×Nat)):List (Nat×Value)→List Value→List Value→Prop
 |nil {cs}:Bld pl [] cs cs
 |cons {i u rest cs us cs' out off sz}:pl i=some (off,sz)→u.cells=us.toArray→us.length=sz→gj (off+sz) cs.length=true→gM cs off us=cs'→Bld pl rest cs' out→Bld pl ((i,u)::rest) cs out
theorem OR {pl:Nat→Option (Nat×Nat)} {i:Nat} {u:Value} {rest:List (Nat×Value)} {cs cs' out:List Value} {off:Nat} (hp:pl i=some (off,1)) (h1:u.oneCell'=true) (zy:ao off cs.length=true) (hs:cs.set off u=cs') (hr:Bld pl rest cs' out):Bld pl ((i,u)::rest) cs out:=by
 have hlt:off<cs.length:=by simpa using zy
 have hc:u.cells=[u].toArray:=by cases u<;>first|rfl|(simp [a6] at h1)
 refine .cons hp hc rfl (jd Z8) ?_ hr;rw[←hs,kH _ _ _ (by simp only[gk];omega),fw,Jg hlt];simp
theorem aJQ {pl:Nat→Option (Nat×Nat)} {i:Nat} {us:List Value} {rest:List (Nat×Value)} {cs cs' out:List Value} {off sz:Nat} (hp:pl i=some (off,sz)) (hl:us.length=sz) (zy:gj (off+sz) cs.length=true) (hs:gM cs off us=cs') (hr:Bld pl rest cs' out):Bld pl ((i, .agg us.toArray)::rest) cs out:= .cons hp rfl hl zy hs hr
theorem acH: ∀ (us:List Value) (off k:Nat) (cs:List Value),off+k+us.length≤cs.length→(us.zipIdx k).foldl (fun (c:Array Value) (p:Value×Nat)=>c.setIfInBounds (off+p.2) p.1) cs.toArray=(gM cs (off+k) us).toArray:=by
 intro us;induction us with
 |nil=>intro off k cs _;cases cs<;>simp [gM]
 |cons u us ih=>
  intro off k cs h;simp only[dv] at h;rw[List.zipIdx_cons,List.foldl_cons];have e1:(cs.toArray.setIfInBounds (off+k) u)=(cs.set (off+k) u).toArray:=Ja
  rw[e1,ih off (k+1) _ (by simp;omega)];congr 1;rw[kH _ _ _ (by simp;omega),kH _ _ _ (by simp;omega)];apply ep;intro j;simp only[dr,ae,ar,List.length_set,au,aw,ic,dv];by_cases c1:j<off+k
  ·rw[Jg Z8,Jg Z8,Jg Z8,Jf Z8,Jg Z8,Jg Z8,Jg Z8]
  ·by_cases c2:j=off+k
   ·subst c2;rw[Jg Z8,Jg Z8,Jg Z8,Jg rfl,Jg Z8,Jg Z8,Jf Z8];rw[show off+k-min (off+k) cs.length=0 from by omega];rfl
   ·by_cases c3:j<off+k+1+us.length
    ·rw[Jg Z8,Jf Z8,Jg Z8,Jf Z8];rw[show j-min (off+k) cs.length=(j-min (off+(k+1)) cs.length)+1 from by omega];rfl
    ·rw[Jf Z8,Jf Z8,Jf Z8];congr 1;omega
theorem QK {pl:Nat→Option (Nat×Nat)}: ∀ {ps:List (Nat×Value)} {cs out:List Value},Bld pl ps cs out→Instr.fill pl cs.toArray ps=some out.toArray:=by
 intro ps cs out h;induction h with
 |nil=>rfl
 | @cons i u rest cs us cs' out off sz hf zw hl zx zv _ ih=>
  have zy:=ay zx;unfold Instr.fill;subst hl;simp only[hf,zw,dq,ne_eq,not_true_eq_false,decide_false,Bool.false_or,decide_eq_true_eq,Jf (Nat.not_lt.2 zy)];have:=acH us off 0 cs Z8;simp only[fl] at this;rw[show us.toArray.zipIdx=(us.zipIdx 0).toArray from by simp,List.foldl_toArray,this,zv];exact ih
def evp (F:eE):List (Nat×Operand)→Option (List (Nat×Value))
 |[]=>some []
 |(i,x)::l=>match ev F x,evp F l with
  |some v,some r=>some ((i,v)::r)
  |_,_=>none
theorem afP {a:Act} (ha:Ok F n a): ∀ {l:List (Nat×Operand)} {ps:List (Nat×Value)},evp F l=some ps→l.map (fun p=>(p.1,a.eval p.2))=ps:=by
 intro l;induction l with
 |nil=>intro ps h;simpa [evp] using h
 |cons p l ih=>
  obtain⟨i,x⟩:=p;intro ps h;simp only[evp] at h;split at h
  ·rename_i v r hv hr;simp only[aq] at h;subst h;simp [ih hr,ha.eval hv]
  ·cases h
theorem aJR {pl:List (Nat×Nat)} [hl:WT P T z' pl] {parts:List (Nat×Operand)} {ps:List (Nat×Value)} {cs out:List Value} (ho:o.op= .build T parts.toArray) (hp:evp F parts=some ps) (hz:z'.cells=cs.toArray) (hb:Bld (fun i=>pl[i]?) ps cs out):Qt P n o F H (.agg out.toArray):=fun a w ha hw=>by
 have h1:=hl.h;have zy:P.built T ps=some out.toArray:=by
  unfold aAS at h1;unfold Program.built;split at h1
  ·rename_i it fields hi hu;simp only[hi,hu];split at h1
   ·rename_i z places zx hpl;simp only[aq,de] at h1;obtain⟨rfl,rfl⟩:=h1;simp only[zx,hpl];have:=QK hb;rw[←hz] at this;simpa using this
   ·cases h1
  ·cases h1
 have he:=afP ha hp;have:(Instr.build T (parts.toArray.map fun (i,x)=>(i,a.eval x))).run P w= .ok (.agg out.toArray) w:=by
  apply run_build;rw[←zy];congr 1;simpa using he
 simp only[execOp,ho,ab,this,aa,ah]
theorem aAT {pl:List (Nat×Nat)} {cs:List Value} (hl:WT P T z' pl) (hz:Zr P T cs):z'.cells=cs.toArray:=by
 obtain⟨agg,sz,by',z2,ht,hc⟩:=hz.h;obtain⟨i,d,hi,hd,_,_,_,hzero⟩:=ht.info;have h1:=hl.h;unfold aAS at h1;split at h1
 ·rename_i it fields zy hu;split at h1
  ·rename_i z places zx hpl;simp only[aq,de] at h1;rw[hi] at zy;cases zy;rw[hzero] at zx;cases zx;rw[←h1.1];exact hc
  ·cases h1
 ·cases h1
theorem aTG {pl:List (Nat×Nat)} {cs:List Value} [hl:WT P T z' pl] [hz:Zr P T cs] {parts:List (Nat×Operand)} {ps:List (Nat×Value)} {out:List Value} (ho:o.op= .build T parts.toArray) (hp:evp F parts=some ps) (hb:Bld (fun i=>pl[i]?) ps cs out):Qt P n o F H (.agg out.toArray):=aJR ho hp (aAT hl hz) hb
def pE (z:Value) (len:Nat):List Value:=(du len z.cells.toList).flatten
theorem OS {z:Value} {sz:Nat} (hz:z.cells.size=sz) (len:Nat):(jx (len*sz)).map (z.cells[· %z.cells.size]!)=(pE z len).toArray:=by
 apply Array.ext_getElem?;intro i;subst hz;have zx:(pE z len).length=len*z.cells.size:=by
  simp [pE,jk,List.sum_replicate_nat]
 by_cases hi:i<len*z.cells.size
 ·have zy:0<z.cells.size:=by rcases jo z.cells.size with h0|h0;(rw[h0] at hi;simp at hi);exact h0
  have h1:i/z.cells.size<len:=(eu zy).2 hi;have h2:i%z.cells.size<z.cells.size:=jf _ zy;have zw:i/z.cells.size*z.cells.size+i%z.cells.size=i:=by rw[ij];exact gq i _
  have h3:=qD (α:=Nat) (fun _=>z.cells.toList) z.cells.size Ja (du len 0) (i/z.cells.size) 0 (by rw[List.getElem?_replicate,Jg h1]) (i%z.cells.size) (z.cells[i%z.cells.size]'h2) Ja;rw[zw] at h3;have h4:pE z len=flat (fun _:Nat=>z.cells.toList) (du len 0):=by simp [pE,flat]
  have h5:(pE z len).toArray[i]? =some z.cells[i%z.cells.size]:=by rw[List.getElem?_toArray,h4];exact h3
  rw[h5];simp [hi,h2]
 ·rw[fy (by simpa using il hi),fy (by simp only[dq,zx];omega)]
theorem aT {t e len sz by':Nat} {agg:Bool} [ht:pD P t e] [hs:Ty P e agg sz by' z'] {parts:List (Nat×Operand)} {ps:List (Nat×Value)} {cs out:List Value} (ho:o.op= .buildSlice t len parts.toArray) (hp:evp F parts=some ps) (hz:pE z' len=cs) (hb:Bld (fun i=>some (i*sz,sz)) ps cs out) (zx:out.length=len*sz) (hl:gj len 100000=true) (hlz:len*sz≤16777216) (zv:ao 0 (len*sz)=true):cN P n o F H fun u H'=> ∃ q,u= .slice q len len∧H'=own (.slice q len len) e sz len out::H:=fun Q a w next ha hw hn=>by
 have he:=afP ha hp;have hlp':0<len*sz:=by simpa using zv
 have zy:Instr.fill (fun i=>some (i*sz,sz)) ((jx (len*sz)).map (z'.cells[· %z'.cells.size]!)) ps=some out.toArray:=by
  rw[OS hs.hz,hz];exact QK hb
 have zw:(Instr.buildSlice t len (parts.toArray.map fun (i,x)=>(i,a.eval x))).run P w= .ok (.slice (some ⟨w.heap.size,0,none⟩) len len) (w.alloc (.cells out.toArray e)):=by
  have e1:(parts.toArray.map fun (i,x)=>(i,a.eval x)).toList=ps:=by simpa using he
  unfold Instr.buildSlice;simp only[ab,run_underlying ht.h,aa,eH hs,Jf (show ¬ len*sz>2^24 from Z8),Jf (show ¬ len*sz=0 from Z8),ah,rB hs,e1,zy];rfl
 unfold bj;simp only[execOp,ho,ab,zw,aa,ah,bf];refine hn _ _ _ ⟨some ⟨w.heap.size,0,none⟩,rfl,rfl⟩ (aG.new hw (fZ w (.cells out.toArray e)) ⟨zx, .inr ⟨w.heap.size,len,out.toArray,rfl,fe _,heap_alloc_new _ _,df _, ?_,by simpa using zx, ?_⟩⟩ fun b hb=> ?_)
 ·have:=ay hl;unfold maxLen;omega
 ·simp [←zx]
 ·have:w.heap.size=b:=a7 hb;omega
def WZ (F:eE):List Operand→Option (List Value)
 |[]=>some []
 |x::l=>match ev F x,WZ F l with
  |some v,some r=>some (v::r)
  |_,_=>none
theorem nL {a:Act} (ha:Ok F n a): ∀ {l:List Operand} {vs:List Value},WZ F l=some vs→l.map a.eval=vs:=by
 intro l;induction l with
 |nil=>intro vs h;simpa [WZ] using h
 |cons x l ih=>
  intro vs h;simp only[WZ] at h;split at h
  ·rename_i v r hv hr;simp only[aq] at h;subst h;simp [ih hr,ha.eval hv]
  ·cases h
theorem lP {f:FuncId} [hc:cG P f] (args:Array Value) (w:World):(callFunc f args).run P w= .ok (.enter f args) w:=by
 have h:=hc.h;obtain⟨fn,hf,e⟩:=dh.1 h;simp only[de] at e;have h1:fn.body.isNone=false:=by cases hb:fn.body<;>simp [hb] at e ⊢
 simp only[callFunc,program,ab,km,aa,hf,e.2,h1,fm,if_false,ah]
theorem afQ {f:FuncId} [hc:cG P f] {args:List Operand} {ts:Array TypeId} {vs:List Value} {C S:List Ent} {Rs:Value→List Ent→Prop} (ho:o.op= .call { callee:= .value (.func f),args:=args.toArray,argTypes:=ts }) (hs:Ct P f vs C Rs) (hv:WZ F args=some vs) (p:kT C H S):cN P n o F H fun v H'=> ∃ H1,Rs v H1∧H'=H1++S:=fun Q a w next ha hw hn=>by
 have he:=nL ha hv;have e1:args.toArray.map a.eval=vs.toArray:=by simpa using he
 unfold bj;simp only[execOp,ho,resolve,Deferred.ofValue,Act.eval,invoke,e1,ab,ah,aa,lP];simp only[jq,jl,dz,bf];refine (hs.go S w (p.ok hw)).mono ?_;rintro e w' ⟨v,H1,rfl,h1,h2⟩;exact hn v _ w' ⟨H1,h1,rfl⟩ h2
theorem cA {A B:List Ent} (p:A.Perm B):HSub A B:=fun w h=>h.perm p
theorem wV {f:FuncId} [hc:cG P f] {x:Operand} {first cap:List Value} {args:List Operand} {ts:Array TypeId} {vs:List Value} {pre C Fr:List Ent} {u:Value} (ho:o.op= .call { callee:= .value x,args:=args.toArray,argTypes:=ts }) (hx:ev F x=some (.func (.func f) first.toArray cap.toArray)) (hv:WZ F args=some vs) (hs:Ct P f (first++vs++cap) C fun v H'=>v=u∧H'=C) (hH:H=pre++(C++Fr)):cN P n o F H fun v H'=>v=u∧H'=H:=fun Q a w next ha hw hn=>by
 have he:=nL ha hv;have e1:args.toArray.map a.eval=vs.toArray:=by simpa using he
 have e2:first.toArray++vs.toArray++cap.toArray=(first++vs++cap).toArray:=Ja
 subst hH;have hp:(pre++(C++Fr)).Perm (C++(pre++Fr)):=by
  rw[←fu, ←fu];exact List.Perm.append_right Fr List.perm_append_comm
 unfold bj;simp only[execOp,ho,resolve,Deferred.ofValue,ha.eval hx,invoke,e1,e2,ab,ah,aa,lP,bf];refine (hs.go (pre++Fr) w (hw.perm hp)).mono ?_;rintro e w' ⟨v,H1,rfl,⟨h1,rfl⟩,h2⟩;exact hn v _ w' ⟨h1,rfl⟩ (h2.perm hp.symm)
theorem QL {fn:Fn} {fi ca:List Operand} {vf vc:List Value} (ho:o.op= .makeFunc fn fi.toArray ca.toArray) (hf:WZ F fi=some vf) (hc:WZ F ca=some vc):Qt P n o F H (.func fn vf.toArray vc.toArray):=fun a w ha hw=>by
 have h1:=nL ha hf;have h2:=nL ha hc;simp [execOp,ho,Instr.makeFunc,h1,h2]
end
theorem oW (sz:Nat) (v:Value) (rows:List (List Value)):(sl sz v rows).jF=false:=rfl
theorem tV (W:World):(bL W).jF=false:=rfl
end sl
namespace sl
open Go.RowKit bO
def OE (P:Program) (ops:Array Oper) (Q:fW) (S:World→Prop) (nk:List Nat):Nat→Array Bool→Act→World→Prop
 |0,L,a,w=>ax .any ops L=[]∧Q .normal a w
 |k+1,L,a,w=>(ax .any ops L=[]→Q .normal a w)∧
  ∀ i∈ax .any ops L,wpOp P ops Q i (fun a' w'=>(i∉nk→S w')∧OE P ops Q S nk k (L.setIfInBounds i true) a' w') a w
section
variable {P:Program} {ops:Array Oper} {Q:fW} {S:World→Prop} {nk:List Nat}
theorem OE.any: ∀ (k:Nat) (L:Array Bool) (a:Act) (w:World),OE P ops Q S nk k L a w→wpAny P .any ops Q k L a w
 |0,_,_,_,h=>h
 |k+1,_,_,_,h=>⟨h.1,fun i hi=>wpOp_mono (fun a' w' h'=>OE.any k _ a' w' h'.2) (h.2 i hi)⟩
def behind (ops:Array Oper) (i j:Nat):Bool:=(ops[j]?).any fun o=>o.after.any fun e=>jr .any e&&e.on==i
theorem alW {i:Nat} {oi:Oper} {v:Value} (hi:ops[i]? =some oi) (zw: ∀ (j:Nat) (o:Oper) cs b,ops[j]? =some o→o.op≠ .select cs b) (hQ: ∀ c a w, ¬ Q (.panic c) a w) (hb: ∀ j∈nk,j≠i→behind ops i j=true): ∀ (k:Nat) (L:Array Bool) (a:Act) (w:World),(∀ j oj,ops[j]? =some oj→j≠i→L.getD j true=false→(∀ e∈oj.after,jr .any e=true→e.on≠i)→oi.apart ops oj=true)→i∈ax .any ops L→YieldsIf P ops S oi v a→S w→OE P ops Q S nk k (L.setIfInBounds i true) (a.put oi.dst v) w→OE P ops Q S nk (k+1) L a w:=by
 intro k;induction k with
 |zero=>
  intro L a w _ hr hy hS H;refine⟨fun h=>absurd hr (by rw[h];exact ck),fun j hj=> ?_⟩;by_cases zy:j=i
  ·rw[zy] at hj ⊢;exact hy.wpOp hi hS ⟨fun _=>hS,H⟩
  ·have h9:=ready_mono hj zy;rw[H.1] at h9;exact absurd h9 ck
 |succ k ih=>
  intro L a w zx hr hy hS H;refine⟨fun h=>absurd hr (by rw[h];exact ck),fun j hj=> ?_⟩;by_cases zy:j=i
  ·rw[zy] at hj ⊢;exact hy.wpOp hi hS ⟨fun _=>hS,H⟩
  ·obtain⟨zv,oj,zu,zt⟩:=mem_ready.1 hj;have zq: ∀ e∈oj.after,jr .any e=true→e.on≠i:=fun e he zl heq=>by
    have g1:=zt e he zl;have g0:=(mem_ready.1 hr).1;rw[heq] at g1;by_cases hs:i<L.size
    ·simp [hs] at g0 g1;rw[g0] at g1;exact absurd g1 Ja
    ·simp [fy (il hs)] at g1
   have zk:j∉nk:=fun zj=>by
    have:=hb j zj zy;simp only[behind,zu,Option.any_some,Array.any_eq_true] at this;obtain⟨x,hx,zr⟩:=this;simp only[ir,beq_iff_eq] at zr;exact zq _ (Array.getElem_mem hx) zr.1 zr.2
   have g2:=wpOp_putIf zu (zx j oj zu zy zv zq) (fun cs b=>zw i oi cs b hi) (fun cs b=>zw j oj cs b zu) (fun c a w h=>absurd h (hQ c _ w)) hy (H.2 j (ready_mono hj zy));refine wpOp_mono (fun a' w' h3=>⟨h3.2.1, ?_⟩) g2;refine ih (L.setIfInBounds j true) a' w' (fun m om hm zh zn zg=> ?_) (ready_mono hr (Ne.symm zy)) h3.1 (h3.2.1 zk) ?_
   ·refine zx m om hm zh ?_ zg;by_cases zm:j=m
    ·rw[←zm];exact zv
    ·rw[getD_set_ne true zm] at zn;exact zn
   ·rw[Array.setIfInBounds_comm _ _ zy];exact h3.2.2
end
def calm (Q:fW):fW
 | .panic _,_,_=>False
 |e,a,w=>Q e a w
def eQ (P:Program) (ops:Array Oper) (Q:fW) (n:Nat) (Hq:List Ent) (nk:List Nat) (k:Nat) (L:Array Bool) (F:eE) (H:List Ent):Prop:=
 ∀ a w,Ok F n a→aG H w→OE P ops (calm Q) (aG Hq) nk k L a w
section
variable {P:Program} {ops:Array Oper} {Q:fW} {n:Nat} {Hq:List Ent} {nk:List Nat} {k:Nat} {L:Array Bool} {F:eE} {H:List Ent}
theorem JB {id:Nat} {l:List Oper} (Hq:List Ent) (nk:List Nat) (hm:P.follows .mixedOrders=true) (h:eQ P l.toArray Q n Hq nk l.length (fh l.length false) F H):dG P Q n (.region id l.toArray true) F H:=fun a w ha hw=>by
 have h1:=h a _ ha hw.drew;have h2:=OE.any _ _ _ _ h1;refine wp_mono (wp_region_any hm (Q:=calm Q) (by simpa using h2)) ?_;intro e a w hq;cases e<;>first|exact hq|exact hq.elim
def rC:List Nat→List Ent→List Ent
 |[],_=>[]
 |i::l,H=>match H[i]? with
  |some e=>e::rC l H
  |none=>rC l H
theorem mD {id:Nat} {l:List Oper} {Hq:List Ent} (is nk:List Nat) (hq:rC is H=Hq) (hm:P.follows .mixedOrders=true) (h:eQ P l.toArray Q n Hq nk l.length (fh l.length false) F H):dG P Q n (.region id l.toArray true) F H:=JB Hq nk hm h
theorem tW (hr:ax .any ops L=[]) (h:dL Q .normal n F H):eQ P ops Q n Hq nk k L F H:=fun a w ha hw=>by
 have h1:calm Q .normal a w:=h a w ha hw;cases k with
 |zero=>exact⟨hr,h1⟩
 |succ k=>exact⟨fun _=>h1,fun i hi=>absurd hi (by rw[hr];exact ck)⟩
def gW (ops:Array Oper) (nk:List Nat) (L:Array Bool) (i:Nat):Bool:=
 j7 ops&&kv .any ops L i&&(ax .any ops L).contains i&&nk.all fun j=>j==i||behind ops i j
theorem vI {i:Nat} {o:Oper} {v:Value} (hi:ops[i]? =some o) (hb:gW ops nk L i=true) (hs:HSub H Hq) (hd:fits n o.dst=true) (hy: ∀ a,Ok F n a→YieldsIf P ops (aG Hq) o v a) (h:eQ P ops Q n Hq nk k (L.setIfInBounds i true) (qO F o.dst v) H):eQ P ops Q n Hq nk (k+1) L F H:=fun a w ha hw=>by
 simp only[gW,ir,List.contains_iff_mem,iq,j8,beq_iff_eq] at hb;obtain⟨⟨⟨h1,h2⟩,h3⟩,h4⟩:=hb;exact alW hi (Region.noSelect_spec h1) (fun c a w h=>h) (fun j hj zy=>(h4 j hj).resolve_left zy) k L a w (Region.free_spec hi h2) h3 (hy a ha) (hs w hw) (h _ w (ha.put hd) hw)
theorem aAU (i:Nat) {o:Oper} {v:Value} (hi:ops[i]? =some o) (hg:mV ops F o) (hb:gW ops nk L i=true) (hs:HSub H Hq) (hd:fits n o.dst=true) (hq:Qt P n o F Hq v) (h:eQ P ops Q n Hq nk k (L.setIfInBounds i true) (qO F o.dst v) H):eQ P ops Q n Hq nk (k+1) L F H:=
 vI hi hb hs hd (fun a ha=> .inl ⟨hg.wanted ha,fun w hw=>hq a w ha hw⟩) h
theorem acI (i:Nat) {o:Oper} {j t:Nat} {b:Bool} (hi:ops[i]? =some o) (hg:o.guard=some (j,b)) (zy:pX ops j=some t) (hv:look F t=some (.bool (!b))) (hb:gW ops nk L i=true) (hs:HSub H Hq) (hd:fits n o.dst=true) (h:eQ P ops Q n Hq nk k (L.setIfInBounds i true) (qO F o.dst undef) H):eQ P ops Q n Hq nk (k+1) L F H:=
 vI hi hb hs hd (fun a ha=> .inr ⟨by simp only[bc,hg,vF ha zy hv];cases b<;>simp,rfl⟩) h
def QM (P:Program) (ops:Array Oper) (Q:fW) (n:Nat) (Hq:List Ent) (nk:List Nat) (k:Nat) (L:Array Bool) (F:eE) (H:List Ent) (i:Nat):Prop:=
 ∀ a w,Ok F n a→aG H w→wpOp P ops (calm Q) i (fun a' w'=>(i∉nk→aG Hq w')∧OE P ops (calm Q) (aG Hq) nk k (L.setIfInBounds i true) a' w') a w
theorem aPB {i:Nat} {o:Oper} {K:Value→List Ent→Prop} (hi:ops[i]? =some o) (hg:mV ops F o) (hd:fits n o.dst=true) (h:cN P n o F H K) (hk: ∀ v H',K v H'→(nk.contains i=false→HSub H' Hq)∧eQ P ops Q n Hq nk k (L.setIfInBounds i true) (qO F o.dst v) H'):QM P ops Q n Hq nk k L F H i:=fun a w ha hw=>by
 unfold wpOp;simp only[hi];rw[Jg (hg.wanted ha)];refine .inl (h (calm Q) a w _ ha hw fun v H' w' zx zy=> ?_);obtain⟨h1,h2⟩:=hk v H' zx;exact⟨fun hn=>h1 (by simpa using hn) w' zy,h2 _ _ (ha.put hd) zy⟩
theorem qG (i:Nat) (hr:ax .any ops L=[i]) (h:QM P ops Q n Hq nk k L F H i):eQ P ops Q n Hq nk (k+1) L F H:=fun a w ha hw=>
 ⟨fun h0 => absurd (hr ▸ h0) Ja, fun j hj => by
  rw [hr] at hj;rw [eh.1 hj];exact h a w ha hw⟩
theorem aJS (i j:Nat) (hr:ax .any ops L=[i,j]) (h:QM P ops Q n Hq nk k L F H i) (h':QM P ops Q n Hq nk k L F H j):eQ P ops Q n Hq nk (k+1) L F H:=fun a w ha hw=>
 ⟨fun h0 => absurd (hr ▸ h0) Ja, fun m hm => by
  rw[hr] at hm;rcases al.1 hm with rfl|hm
  ·exact h a w ha hw
  ·rw [eh.1 hm];exact h' a w ha hw⟩
theorem vJ (i:Nat) {d:Nat} {op:Op} {ty:TypeId} {ps:String} {af:Array Edge} {g:Option (Nat×Bool)} {v:Value} (hi:ops[i]? =some ⟨some d,op,ty,ps,af,g⟩) (hg:mV ops F ⟨some d,op,ty,ps,af,g⟩) (hb:gW ops nk L i=true) (hs:HSub H Hq) (hd:ao d n=true) (hq:Qt P n ⟨some d,op,ty,ps,af,g⟩ F Hq v) (h:eQ P ops Q n Hq nk k (L.setIfInBounds i true) ((d,v)::F) H):eQ P ops Q n Hq nk (k+1) L F H:=aAU i hi hg hb hs hd hq h
theorem YC (i:Nat) {d:Nat} {op:Op} {ty:TypeId} {ps:String} {af:Array Edge} {j t:Nat} {b:Bool} (hi:ops[i]? =some ⟨some d,op,ty,ps,af,some (j,b)⟩) (zy:pX ops j=some t) (hv:look F t=some (.bool (!b))) (hb:gW ops nk L i=true) (hs:HSub H Hq) (hd:ao d n=true) (h:eQ P ops Q n Hq nk k (L.setIfInBounds i true) ((d,undef)::F) H):eQ P ops Q n Hq nk (k+1) L F H:=acI i hi rfl zy hv hb hs hd h
theorem YD (i:Nat) {d:Nat} {op:Op} {ty:TypeId} {ps:String} {af:Array Edge} {g:Option (Nat×Bool)} {K:Value→List Ent→Prop} (hi:ops[i]? =some ⟨some d,op,ty,ps,af,g⟩) (hg:mV ops F ⟨some d,op,ty,ps,af,g⟩) (hd:ao d n=true) (h:cN P n ⟨some d,op,ty,ps,af,g⟩ F H K) (hk: ∀ v H',K v H'→(nk.contains i=false→HSub H' Hq)∧eQ P ops Q n Hq nk k (L.setIfInBounds i true) ((d,v)::F) H'):QM P ops Q n Hq nk k L F H i:=aPB hi hg hd h hk
theorem aqI (i:Nat) {op:Op} {ty:TypeId} {ps:String} {af:Array Edge} {g:Option (Nat×Bool)} {K:Value→List Ent→Prop} (hi:ops[i]? =some ⟨none,op,ty,ps,af,g⟩) (hg:mV ops F ⟨none,op,ty,ps,af,g⟩) (h:cN P n ⟨none,op,ty,ps,af,g⟩ F H K) (hk: ∀ v H',K v H'→(nk.contains i=false→HSub H' Hq)∧eQ P ops Q n Hq nk k (L.setIfInBounds i true) F H'):QM P ops Q n Hq nk k L F H i:=aPB hi hg rfl h hk
end
end sl
namespace sl
open Go.RowKit bO
theorem str_inj {s t:ByteArray} (h:s.toList=t.toList):s=t:=by
 rw[Lib.toList_data,Lib.toList_data] at h;exact ji (Array.toList_inj.mp h)
section
variable {P:Program} {n:Nat} {F:eE} {H R:List Ent} {o:Oper} {x y z:Operand} {v u z':Value} {T:TypeId}
theorem AO {α:Type} {f:α→List Value} {xs:List α} {q:α} {i sz j g off fs:Nat} [hf:lX P T g off fs] (ho:o.op= .fieldAddr T x g) (hx:ev F x=some (bJ v i sz j)) {k:Nat} (hk:j+off=k) (p:bQ (sl sz v (xs.map f)) H R) (hr:xs[i]? =some q):Qt P n o F H (bJ v i sz k):=fun a w ha hw=>by
 have hb:bX w sz v (xs.map f):=hw.1 _ p.mem;obtain⟨ad,m,c,rfl,zy,_⟩:=acG hb (i:=i) (r:=f q) (by rw[dp,hr];rfl);exact MF ho hx hk (H:=H) (fun w _ a' m' c' e=>by simp only[jt,aq] at e;rw[←e.1];exact zy) rfl (fun _ _ h=>by cases h) a w ha hw
theorem AP {i sz j g off fs m e:Nat} {xs:List Value} [hf:lX P T g off fs] (ho:o.op= .fieldAddr T x g) (hx:ev F x=some (bJ v i sz j)) {k:Nat} (hk:j+off=k) (p:bQ (own v e sz m xs) H R) (hi:i<m):Qt P n o F H (bJ v i sz k):=fun a w ha hw=>by
 have hb:w.ownsRow 0 e sz v m xs:=hw.1 _ p.mem;rcases hb.2 with⟨_,h0⟩|⟨g',cap,cur,rfl,_⟩
 ·omega
 ·exact MF ho hx hk (H:=H) (fun w _ a' m' c' e=>by simp only[jt,aq] at e;rw[←e.1]) rfl (fun _ _ h=>by cases h) a w ha hw
theorem EH {b i:Nat} (ho:o.op= .nilCheck x) (hx:ev F x=some (aH b i)):Qt P n o F H (aH b i):=alV ho hx
theorem gQ {b t sz by':Nat} {cs:List Value} {ty t':TypeId} [ht:Ty P ty true sz by' z'] (hx:look F t=some (aH b 0)) (p:bQ (box b cs t') H R) (hl:cs.length=sz):lC P F H (.cell t ty) (.agg cs.toArray):=
 .read (a:=⟨b,0,none⟩) hx fun w hw=>lE ht w _ cs hl (fun j u hj=>by rw[addr_add,dj,tT (hw.1 _ p.mem)];exact hj) (tQ cs)
theorem fG {b t by':Nat} {c:Value} {ty t':TypeId} [ht:Ty P ty false 1 by' z'] (hx:look F t=some (aH b 0)) (p:bQ (box b [c] t') H R):lC P F H (.cell t ty) c:=
 .read (a:=⟨b,0,none⟩) hx fun w hw=>lE ht w _ [c] rfl (fun j u hj=>by rw[addr_add,dj,tT (hw.1 _ p.mem)];exact hj) (oH c)
theorem aJT {ops:Array Oper} {Q:fW} {rest:List Oper} {k:IntKind} {i j:Int} {T T':TypeId} (hg:mV ops F o) (hd:fits n o.dst=true) (ho:o.op= .binOp .lss T x y T') (hx:ev F x=some (.int k i)) (hy:ev F y=some (.int k j)) (h1:i<j→cM P ops Q n rest (qO F o.dst (.bool true)) H) (h2:j≤i→cM P ops Q n rest (qO F o.dst (.bool false)) H):cM P ops Q n (o::rest) F H:=
 tP hg hd ho rfl hx hy (fun h=>h1 (aAN h)) fun h=>h2 (aqC h)
theorem aJU {ops:Array Oper} {Q:fW} {rest:List Oper} {k:IntKind} {i j:Int} {T T':TypeId} (hg:mV ops F o) (hd:fits n o.dst=true) (ho:o.op= .binOp .leq T x y T') (hx:ev F x=some (.int k i)) (hy:ev F y=some (.int k j)) (h1:i≤j→cM P ops Q n rest (qO F o.dst (.bool true)) H) (h2:j<i→cM P ops Q n rest (qO F o.dst (.bool false)) H):cM P ops Q n (o::rest) F H:=
 tP hg hd ho rfl hx hy (fun h=>h1 (aAO h)) fun h=>h2 (aqD h)
theorem aJV {ops:Array Oper} {Q:fW} {rest:List Oper} {k:IntKind} {i j:Int} {T T':TypeId} (hg:mV ops F o) (hd:fits n o.dst=true) (ho:o.op= .binOp .gtr T x y T') (hx:ev F x=some (.int k i)) (hy:ev F y=some (.int k j)) (h1:j<i→cM P ops Q n rest (qO F o.dst (.bool true)) H) (h2:i≤j→cM P ops Q n rest (qO F o.dst (.bool false)) H):cM P ops Q n (o::rest) F H:=
 tP hg hd ho rfl hx hy (fun h=>h1 (aAP h)) fun h=>h2 (aqE h)
theorem aJW {ops:Array Oper} {Q:fW} {rest:List Oper} {k:IntKind} {i j:Int} {T T':TypeId} (hg:mV ops F o) (hd:fits n o.dst=true) (ho:o.op= .binOp .geq T x y T') (hx:ev F x=some (.int k i)) (hy:ev F y=some (.int k j)) (h1:j≤i→cM P ops Q n rest (qO F o.dst (.bool true)) H) (h2:i<j→cM P ops Q n rest (qO F o.dst (.bool false)) H):cM P ops Q n (o::rest) F H:=
 tP hg hd ho rfl hx hy (fun h=>h1 (aAQ h)) fun h=>h2 (aqF h)
theorem aJX {ops:Array Oper} {Q:fW} {rest:List Oper} {k:IntKind} {i j:Int} {T T':TypeId} (hg:mV ops F o) (hd:fits n o.dst=true) (ho:o.op= .binOp .eql T x y T') (hx:ev F x=some (.int k i)) (hy:ev F y=some (.int k j)) (h1:i=j→cM P ops Q n rest (qO F o.dst (.bool true)) H) (h2:i≠j→cM P ops Q n rest (qO F o.dst (.bool false)) H):cM P ops Q n (o::rest) F H:=
 tP hg hd ho rfl hx hy (fun h=>h1 (aAL h)) fun h=>h2 (aqA h)
theorem aJY {ops:Array Oper} {Q:fW} {rest:List Oper} {k:IntKind} {i j:Int} {T T':TypeId} (hg:mV ops F o) (hd:fits n o.dst=true) (ho:o.op= .binOp .neq T x y T') (hx:ev F x=some (.int k i)) (hy:ev F y=some (.int k j)) (h1:i≠j→cM P ops Q n rest (qO F o.dst (.bool true)) H) (h2:i=j→cM P ops Q n rest (qO F o.dst (.bool false)) H):cM P ops Q n (o::rest) F H:=
 tP hg hd ho rfl hx hy (fun h=>h1 (aAM h)) fun h=>h2 (aqB h)
theorem run_seq {ops:Array Oper} {Q:fW} {rest:List Oper} {s t:ByteArray} {T T':TypeId} (hg:mV ops F o) (hd:fits n o.dst=true) (ho:o.op= .binOp .eql T x y T') (hx:ev F x=some (.string s)) (hy:ev F y=some (.string t)) (h1:s=t→cM P ops Q n rest (qO F o.dst (.bool true)) H) (h2:s≠t→cM P ops Q n rest (qO F o.dst (.bool false)) H):cM P ops Q n (o::rest) F H:=by
 by_cases h:s=t
 ·exact QG hg hd (by have:=IZ (P:=P) (n:=n) (H:=H) ho hx hy;rw[h] at this;simpa using this) (h1 h)
 ·refine QG hg hd ?_ (h2 h);have:=IZ (P:=P) (n:=n) (H:=H) ho hx hy;have e:(s.toList==t.toList)=false:=by
   simp only[beq_eq_false_iff_ne,ne_eq];intro e;exact h (str_inj e)
  rw[e] at this;exact this
theorem aAV {ops:Array Oper} {Q:fW} {rest:List Oper} {s t:ByteArray} {T T':TypeId} (hg:mV ops F o) (hd:fits n o.dst=true) (ho:o.op= .binOp .neq T x y T') (hx:ev F x=some (.string s)) (hy:ev F y=some (.string t)) (h1:s≠t→cM P ops Q n rest (qO F o.dst (.bool true)) H) (h2:s=t→cM P ops Q n rest (qO F o.dst (.bool false)) H):cM P ops Q n (o::rest) F H:=by
 by_cases h:s=t
 ·exact QG hg hd (by have:=JA (P:=P) (n:=n) (H:=H) ho hx hy;rw[h] at this;simpa using this) (h2 h)
 ·refine QG hg hd ?_ (h1 h);have:=JA (P:=P) (n:=n) (H:=H) ho hx hy;have e:(s.toList==t.toList)=false:=by
   simp only[beq_eq_false_iff_ne,ne_eq];intro e;exact h (str_inj e)
  rw[e] at this;exact this
end
theorem dW {α:Type} (xs:List α) (k:Nat):(∃ x,xs[k]? =some x∧k<xs.length)∨xs.length≤k:=by
 rcases ig k xs.length with h|h
 ·exact .inl ⟨_,ak h,h⟩
 ·exact .inr h
theorem aAW {α:Type} {p:α→Bool} {xs:List α} {k:Nat} {x:α} (hx:xs[k]? =some x) (h:(xs.take k).any p=false) (hp:p x=false):(xs.take (k+1)).any p=false:=by
 rw[take_one hx,List.any_append,h];simp [hp]
theorem aJZ {α:Type} {p:α→Bool} {xs:List α} {k:Nat} (hk:xs.length≤k) (h:(xs.take k).any p=false):xs.any p=false:=by
 rw[bd hk] at h;exact h
theorem aPV {α:Type} {p:α→Bool} {xs:List α} {k:Nat} {x:α} (hx:xs[k]? =some x) (hp:p x=true):xs.any p=true:=by
 rw[List.any_eq_true];exact⟨x,jg hx,hp⟩
def fS (s:ByteArray):List Value:=[.string s]
def fI (i:Int):List Value:=[.int .i64 i]
def fB (b:Bool):List Value:=[.bool b]
def fP (p:Int×ByteArray):List Value:=[.int .i64 p.1, .string p.2]
theorem acJ (s:ByteArray): ∀ u∈fS s,u.oneCell'=true:=by simp [fS,a6]
theorem acK (s:Int): ∀ u∈fI s,u.oneCell'=true:=by simp [fI,a6]
theorem acL (s:Bool): ∀ u∈fB s,u.oneCell'=true:=by simp [fB,a6]
theorem acM (p:Int×ByteArray): ∀ u∈fP p,u.oneCell'=true:=by simp [fP,a6]
end sl
namespace sl
open Go.RowKit bO
theorem bK {P:Program} {f:FuncId} {args:List Value} {H:List Ent} {u:Value} (h: ∀ w,aG H w→Calls P f args.toArray w fun e w'=>e= .returned u∧Below w.heap.size w w'):Ct P f args H fun v H'=>v=u∧H'=[]:=
 ⟨fun Fr w hw=>(h w (hw.sub (ik _ _))).mono fun e w' ⟨he,hb⟩=>⟨u,[],he,⟨rfl,rfl⟩,(hw.sub (fj _ _)).aOL ⟨hb.os,hb.tape,hb.output,hb.size,fun b zy _=>hb.block b zy⟩⟩⟩
theorem atN {H:List Ent} {W:World} (h: ∀ e∈H,e.jF=false∧e.holds W):aG H W:=
 ⟨fun e he => (h e he).2, by
  induction H with
  |nil=>exact ft
  |cons e H ih=>
   refine an.2 ⟨fun f hf hx => ?_, ih fun f hf => h f (a8 _ hf)⟩;rw [(h e bu).1, (h f (a8 _ hf)).1] at hx;rcases hx with hx | hx <;> cases hx⟩
theorem aAX (W:World):(bL W).holds W:=Below.refl W.heap.size W
theorem atO {P:Program} {f:FuncId} {args:List Value} {H:List Ent} {u:Value} {W:World} (hH: ∀ e∈H,e.jF=false∧e.holds W) (h:Ct P f args H fun v H'=>v=u∧H'=[]):Calls P f args.toArray W fun e w'=>e= .returned u∧Below W.heap.size W w':=
 (h.go [bL W] W (atN fun e he => by
  rcases ei.1 he with he|he
  ·exact hH e he
  ·rw [eh.1 he]; exact ⟨rfl, aAX W⟩)).mono fun e w' ⟨v, H', he, ⟨hv, zy⟩, hk⟩ => by
  subst hv;subst zy;exact⟨he,hk.1 (bL W) Ja⟩
theorem vK {P:Program} {f:FuncId} {args:List Value} {H H':List Ent} {R:Value→List Ent→Prop} (hs: ∀ Fr,HSub (H'++Fr) (H++Fr)) (h:Ct P f args H R):Ct P f args H' R:=⟨fun Fr w hw=>h.go Fr w (hs Fr w hw)⟩
theorem afR {w:World} {sz:Nat} {v:Value} {rows:List (List Value)} (h:bX w sz v rows): ∃ q c,v= .slice q rows.length c:=by
 rcases h with⟨h0,h1⟩|⟨b,off,cap,rfl,_⟩
 ·subst h0;rcases h1 with rfl|⟨q,c,rfl⟩
  ·exact⟨_,_,rfl⟩
  ·exact⟨_,_,rfl⟩
 ·exact⟨_,_,rfl⟩
theorem YE (T:List Ent):T=[]++T:=rfl
theorem tail_cons {x:Ent} {H pre T:List Ent} (h:H=pre++T):x::H=(x::pre)++T:=by rw[h];rfl
section
variable {P:Program} {n:Nat} {F:eE} {H R:List Ent} {o:Oper} {x y z:Operand} {v u z':Value} {T:TypeId}
theorem run_make_row {t e sz by':Nat} {agg:Bool} (ht:pD P t e) (hs:Ty P e agg sz by' z') (kl kc:IntKind) (c:Nat) (hb:by'*c≤281474976710656) (h63:c≤maxLen) (w:World):(Instr.makeSlice t (.int kl (c:Int)) (.int kc (c:Int))).run P w= .ok (.slice (some ⟨w.heap.size,0,none⟩) c c) (w.alloc (.cells (pE z' c).toArray e)):=by
 obtain⟨i,d,hi,_,_,h1,h2,h3⟩:=hs.info;have zy:(c:Int)≤9223372036854775807:=by
  have h:=h63;simp [maxLen] at h;omega
 have zx:(i.bytes:Int)*(c:Int)≤281474976710656:=by
  rw[h2];have h:((by'*c:Nat):Int)≤281474976710656:=Z8
  rwa [Int.natCast_mul] at h
 have hr:=run_make (P:=P) w t e i z' ht.h hi h3 kl kc c c Z8 (jy _) zx zy;simp only[dc] at hr;rw[hr,h1, ←OS hs.hz c];rfl
theorem wW {α:Type} {f:α→List Value} {z0:α} (hz:z'.cells=(f z0).toArray) (c:Nat):pE z' c=flat f (du c z0):=by simp [pE,flat,hz]
theorem dH {t e sz by':Nat} {agg:Bool} [ht:pD P t e] [hs:Ty P e agg sz by' z'] {α:Type} (f:α→List Value) (z0:α) {kl kc:IntKind} {i j:Int} {c:Nat} (ho:o.op= .makeSlice t x y) (hx:ev F x=some (.int kl i)) (hy:ev F y=some (.int kc j)) (hi:i=(c:Int)) (hj:j=(c:Int)) (hz:z'.cells=(f z0).toArray) (hf:(f z0).length=sz) (hb:by'*c≤281474976710656) (h63:c≤maxLen):cN P n o F H fun u H'=> ∃ q,u= .slice q c c∧H'=own (.slice q c c) e sz c (flat f (du c z0))::H:=fun Q a w next ha hw hn=>by
 subst hi;subst hj;unfold bj;simp only[execOp,ho,ha.eval hx,ha.eval hy,ab,run_make_row ht hs kl kc c hb h63 w,aa,ah,bf];have hl:(pE z' c).length=c*sz:=by
  rw[wW hz];have: ∀ c,(flat f (du c z0)).length=c*sz:=by
   intro c;simp [flat,jk,hf]
  exact this c
 refine hn _ _ _ ⟨some ⟨w.heap.size,0,none⟩,rfl,rfl⟩ (aG.new hw (fZ w (.cells (pE z' c).toArray e)) ?_ fun b hb=> ?_)
 ·rw[←wW hz];exact⟨hl, .inr ⟨w.heap.size,c,(pE z' c).toArray,rfl,fe _,heap_alloc_new _ _,df _,h63,by simpa using hl,by simp [←hl]⟩⟩
 ·have:w.heap.size=b:=a7 hb;omega
end
def aAY (P:Program) (t:TypeId):Option (List (Nat×Nat)):=
 match P.underlying t with
 |some (.struct fs)=>if P.stoodInHeld t||P.eqGuardType P.depth t then none else fs.toList.mapM fun f=>if f.name= "_" then none else
   match P.info? f.type,P.underlying f.type with
   |some _,some (.int _)=>some (f.offset,0)
   |some _,some .string=>some (f.offset,1)
   |some _,some .bool=>some (f.offset,2)
   |_,_=>none
 |_=>none
class Pln (P:Program) (t:TypeId) (pl:outParam (List (Nat×Nat))):Prop where
 h:aAY P t=some pl
def wX:Nat→Value→Value→Option Bool
 |0, .int k a, .int k' b=>if k=k' then some (a==b) else none
 |1, .string a, .string b=>some (a.toList==b.toList)
 |2, .bool a, .bool b=>some (a==b)
 |_,_,_=>none
def pO:List (Nat×Nat)→List Value→List Value→Option Bool
 |[],_,_=>some true
 |(off,k)::l,xs,ys=>match xs[off]?,ys[off]? with
  |some a,some b=>match wX k a b with
   |some true=>pO l xs ys
   |some false=>some false
   |none=>none
  |_,_=>none
theorem tX {P:Program} {t:TypeId} {d:TypeDesc} (hd:P.underlying t=some d) (ha:acF d=false) {cs:List Value} {off:Nat} {v:Value} (hv:cs[off]? =some v) (w:World):(part t cs.toArray off).run P w= .ok v w:=by
 have hg:(isAgg t).run P w= .ok false w:=by
  simp only[isAgg,ab,run_underlying hd,aa];cases d<;>first|rfl|cases ha
 simp [part,ab,hg,hv]
theorem acN {P : Program} (d : Nat) {fs : List Field} {pl : List (Nat × Nat)} {xs ys : List Value} {b : Bool} (w : World) (hp : (fs.mapM fun f => if f.name = "_" then none else
   match P.info? f.type,P.underlying f.type with
   |some _,some (.int _)=>some (f.offset,0)
   |some _,some .string=>some (f.offset,1)
   |some _,some .bool=>some (f.offset,2)
   | _, _ => none) = some pl) (hb : pO pl xs ys = some b) : (Op.eqFields (d + 1) xs.toArray ys.toArray fs).run P w = .ok b w := by
 induction fs generalizing pl with
 |nil=>
  simp at hp;subst hp;simp only[pO,aq] at hb;subst hb;simp [Op.eqFields]
 |cons f fs ih=>
  rw[ki] at hp;simp only[Option.bind_eq_bind,Option.bind_eq_some_iff,Option.pure_def,aq] at hp;obtain⟨p,hp1,pl',hp2,rfl⟩:=hp;split at hp1
  ·cases hp1
  ·rename_i hn;obtain⟨off,k⟩:=p;simp only[pO] at hb;split at hb
   ·rename_i a b' ha hb';simp only[Op.eqFields,ne_eq,hn,not_false_eq_true,if_true,ab];have key: ∀ r,wX k a b'=some r→f.offset=off∧(part f.type xs.toArray f.offset).run P w= .ok a w∧(part f.type ys.toArray f.offset).run P w= .ok b' w∧(Op.equalIn (d+1) f.type a b').run P w= .ok r w:=by
     intro r hr;split at hp1
     ·rename_i k' hi hu;simp only[aq,de] at hp1;obtain⟨h1,h2⟩:=hp1;subst h1;subst h2;refine⟨rfl,tX hu rfl ha w,tX hu rfl hb' w, ?_⟩;cases a<;>simp only[wX] at hr<;>try cases hr
      cases b'<;>simp only at hr<;>try cases hr
      split at hr
      ·rename_i e;subst e;simp only[aq] at hr;subst hr;exact run_equalIn_int w d f.type _ k' _ _ hu
      ·cases hr
     ·rename_i hi hu;simp only[aq,de] at hp1;obtain⟨h1,h2⟩:=hp1;subst h1;subst h2;refine⟨rfl,tX hu rfl ha w,tX hu rfl hb' w, ?_⟩;cases a<;>simp only[wX] at hr<;>try cases hr
      cases b'<;>simp only at hr<;>try cases hr
      exact run_equalIn_string w d f.type _ _ hu
     ·rename_i hi hu;simp only[aq,de] at hp1;obtain⟨h1,h2⟩:=hp1;subst h1;subst h2;refine⟨rfl,tX hu rfl ha w,tX hu rfl hb' w, ?_⟩;cases a<;>simp only[wX] at hr<;>try cases hr
      cases b'<;>simp only at hr<;>try cases hr
      exact run_equalIn_bool w d f.type _ _ hu
     ·cases hp1
    split at hb
    ·rename_i hr;obtain⟨_,k1,k2,k3⟩:=key true hr;simp only[k1,k2,k3,aa,ko,fm,if_false];exact ih hp2 hb
    ·rename_i hr;obtain⟨_,k1,k2,k3⟩:=key false hr;simp only[aq] at hb;subst hb;simp only[k1,k2,k3,aa,fp,if_true,ah]
    ·cases hb
   ·cases hb
theorem EI {P:Program} {t:TypeId} {pl:List (Nat×Nat)} (hp:Pln P t pl) {xs ys:List Value} {b:Bool} (hb:pO pl xs ys=some b) (w:World):P.eqGuardType P.depth t=false∧(Op.equalIn 10000 t (.agg xs.toArray) (.agg ys.toArray)).run P w= .ok b w:=by
 have h:=hp.h;unfold aAY at h;split at h
 ·rename_i fs hu;split at h
  ·cases h
  ·rename_i hg;simp only[j8,not_or,Bool.not_eq_true] at hg;refine⟨hg.2, ?_⟩;have hf:P.fieldsOf t=fs:=by simp [Program.fieldsOf,hu]
   rw[run_equalIn_struct w 9999 t xs.toArray ys.toArray (by rw[hf];exact hu) hg.1,hf];exact acN 9998 w h hb
 ·cases h
section
variable {P:Program} {n:Nat} {F:eE} {H R:List Ent} {o:Oper} {x y z:Operand} {v u z':Value} {T T':TypeId}
theorem YF {s t:ByteArray} (h:s≠t):(s.toList==t.toList)=false:=by
 simp only[beq_eq_false_iff_ne,ne_eq];intro e;exact h (str_inj e)
class EqV (P:Program) (T:TypeId) {α:outParam Type} (val:outParam (α→Value)):Prop where
 g: ∀ (op:BinOp) (x y:Operand) (p q:α) (w:World),(eqGuard op T x y (val p) (val q)).run P w= .ok () w
 t: ∀ (p:α) (w:World),(binOp .eql T (val p) (val p)).run P w= .ok (.bool true) w∧(binOp .neq T (val p) (val p)).run P w= .ok (.bool false) w
 f: ∀ (p q:α) (w:World),p≠q→(binOp .eql T (val p) (val q)).run P w= .ok (.bool false) w∧(binOp .neq T (val p) (val q)).run P w= .ok (.bool true) w
theorem aPW {pl:List (Nat×Nat)} {α:Type} {f:α→List Value} (hp:Pln P T pl) (h: ∀ p q,pO pl (f p) (f p)=some true∧(p≠q→pO pl (f p) (f q)=some false)):EqV P T fun p=>ld (f p).toArray:=
  ⟨fun op x y p q w => by
    by_cases zy:p=q
    · subst zy
      exact run_eqGuard_agg w op T _ _ _ _ (EI hp (h p p).1 w).1
    · exact run_eqGuard_agg w op T _ _ _ _ (EI hp ((h p q).2 zy) w).1,
   fun p w=>by
    obtain⟨g1,g2⟩:=EI hp (h p p).1 w;simp [run_eql_struct,run_neq_struct,g2],
   fun p q w zx=>by
    obtain ⟨g1, g2⟩ := EI hp ((h p q).2 zx) w;simp [run_eql_struct, run_neq_struct, g2]⟩
instance [hs : EB P T] : EqV P T Value.string := ⟨fun op x y p q w => by simp [eqGuard], fun p w => by simp [binOp, Op.stringOp], fun p q w zy => by
  have e := YF zy;simp only [beq_eq_false_iff_ne, ne_eq] at e;simp [binOp, Op.stringOp, e]⟩
instance {k:IntKind} [hs:AA P T k]:EqV P T (gh k):=⟨fun op x y p q w=>by simp [eqGuard],fun p w=>by simp [binOp,Op.intCmp],fun p q w zy=>by simp [binOp,Op.intCmp,zy]⟩
theorem afS {α:Type} {val:α→Value} [he:EqV P T val] {p q:α} (ho:o.op= .binOp .eql T x y T') (hx:ev F x=some (val p)) (hy:ev F y=some (val q)) (h:p=q):Qt P n o F H (.bool true):=fun a w ha _=>by
 subst h;simp only[execOp,ho,ha.eval hx,ha.eval hy,ab,he.g,aa,(he.t p w).1,ah]
theorem afT {α:Type} {val:α→Value} [he:EqV P T val] {p q:α} (ho:o.op= .binOp .neq T x y T') (hx:ev F x=some (val p)) (hy:ev F y=some (val q)) (h:p=q):Qt P n o F H (.bool false):=fun a w ha _=>by
 subst h;simp only[execOp,ho,ha.eval hx,ha.eval hy,ab,he.g,aa,(he.t p w).2,ah]
theorem afU {α:Type} {val:α→Value} [he:EqV P T val] {p q:α} (ho:o.op= .binOp .eql T x y T') (hx:ev F x=some (val p)) (hy:ev F y=some (val q)) (h:p≠q):Qt P n o F H (.bool false):=fun a w ha _=>by
 simp only[execOp,ho,ha.eval hx,ha.eval hy,ab,he.g,aa,(he.f p q w h).1,ah]
theorem afV {α:Type} {val:α→Value} [he:EqV P T val] {p q:α} (ho:o.op= .binOp .neq T x y T') (hx:ev F x=some (val p)) (hy:ev F y=some (val q)) (h:p≠q):Qt P n o F H (.bool true):=fun a w ha _=>by
 simp only[execOp,ho,ha.eval hx,ha.eval hy,ab,he.g,aa,(he.f p q w h).2,ah]
end
def jP (p:Int×Int):List Value:=[.int .i64 p.1, .int .i64 p.2]
def fSI (p:ByteArray×Int):List Value:=[.string p.1, .int .i64 p.2]
def aTH (p:Int×Int×ByteArray):List Value:=[.int .i64 p.1, .int .i64 p.2.1, .string p.2.2]
def aPC (p:Int×Int×Int×ByteArray):List Value:=[.int .i64 p.1, .int .i64 p.2.1, .int .i64 p.2.2.1, .string p.2.2.2]
def AE (p:Int×Int×Int):List Value:=[.int .i64 p.1, .int .i64 p.2.1, .int .u8 p.2.2]
theorem OT (p:Int×Int): ∀ u∈jP p,u.oneCell'=true:=by simp [jP,a6]
theorem OU (p:ByteArray×Int): ∀ u∈fSI p,u.oneCell'=true:=by simp [fSI,a6]
theorem EJ (p:Int×Int×ByteArray): ∀ u∈aTH p,u.oneCell'=true:=by simp [aTH,a6]
theorem yU (p:Int×Int×Int×ByteArray): ∀ u∈aPC p,u.oneCell'=true:=by simp [aPC,a6]
theorem EK (p:Int×Int×Int): ∀ u∈AE p,u.oneCell'=true:=by simp [AE,a6]
theorem aTI (p q:Int×ByteArray):pO [(0,0),(1,1)] (fP p) (fP p)=some true∧(p≠q→pO [(0,0),(1,1)] (fP p) (fP q)=some false):=by
 obtain⟨a,s⟩:=p;obtain⟨b,t⟩:=q;refine⟨by simp [pO,wX,fP],fun h=> ?_⟩;by_cases e:a=b
 ·subst e;have:s≠t:=fun e=>h (by rw[e])
  simp [pO,wX,fP,YF this]
 ·have:(a==b)=false:=by simp [e]
  simp [pO,wX,fP,this]
end sl
namespace sl
open Go.RowKit bO
theorem aTJ (a v:Value) (l:List Value):(a::l).set 0 v=v::l:=rfl
theorem aTK {a v:Value} {l l':List Value} {i:Nat} (h:l.set i v=l'):(a::l).set (i+1) v=a::l':=by rw[←h];rfl
def fro (e:Ent):Ent:={ e with jF:=false }
structure View (S:List Ent) (c:Ent):Prop where
 shared:c.jF=false
 holds: ∀ w,aG S w→c.holds w
 lD: ∀ b,c.lD b→ ∃ e∈S,e.lD b
theorem View.same {S R:List Ent} {e:Ent} (p:bQ e S R) (h:e.jF=false):View S e:=⟨h,fun w hw=>hw.1 e p.mem,fun b hb=>⟨e,p.mem,hb⟩⟩
theorem View.own {S R:List Ent} {e sz m:Nat} {α:Type} {f:α→List Value} {ys:List α} {v:Value} (p:bQ (own v e sz m (flat f ys)) S R) (hf: ∀ y,(f y).length=sz) (hm:m=ys.length):View S (sl sz v (ys.map f)):=
 ⟨rfl,fun w hw=>vE hf hm (hw.1 _ p.mem),fun b hb=>⟨_,p.mem,hb.2⟩⟩
theorem aqJ {w:World} {sz n c m:Nat} {q:Option Addr} {α:Type} {f:α→List Value} {xs:List α} (h:bX w sz (.slice q n c) (xs.map f)) (hm:m≤xs.length):bX w sz (.slice q m c) ((xs.take m).map f):=by
 rcases h with⟨h0,h1⟩|⟨b,off,cap,hv,h2,h3,h4,h5,h6⟩
 ·have hx:xs=[]:=by simpa using h0
  subst hx;have zy:m=0:=by simpa using hm
  subst zy;refine .inl ⟨rfl, ?_⟩;rcases h1 with h1|⟨a,cap,h1⟩
  ·cases h1;exact .inl rfl
  ·cases h1;exact .inr ⟨_,_,rfl⟩
 ·cases hv;by_cases h0:m=0
  ·subst h0;exact .inl ⟨rfl, .inr ⟨_,_,rfl⟩⟩
  ·have hl:((xs.take m).map f).length=m:=by simp;omega
   simp only[gp] at h2;refine .inr ⟨b,off,c,by rw[hl],Z8,h3,Z8,h5,fun i r hr=>h6 i r ?_⟩;rw[jj,au] at hr;split at hr
   ·exact hr
   ·cases hr
theorem View.part {S R:List Ent} {sz n c m:Nat} {q:Option Addr} {α:Type} {f:α→List Value} {xs:List α} (p:bQ (sl sz (.slice q n c) (xs.map f)) S R) (hm:m≤xs.length):View S (sl sz (.slice q m c) ((xs.take m).map f)):=
 ⟨rfl, fun w hw => aqJ (hw.1 _ p.mem) hm, fun b hb => ⟨_, p.mem, fun e => hb.1 (by rw [jj, e]; simp), by
  have h2 := hb.2;cases q <;> exact h2⟩⟩
theorem View.emp {S:List Ent} {sz:Nat} {α:Type} {f:α→List Value} {xs:List α} (hx:xs=[]):View S (sl sz (.slice none 0 0) (xs.map f)):=by
 subst hx;exact⟨rfl,fun w _=> .inl ⟨rfl, .inl rfl⟩,fun b hb=>absurd rfl hb.1⟩
inductive Lp:List Ent→List Ent→List Ent→Prop
 |nil {H}:Lp [] H H
 |view {c C H S}:c.jF=false→Lp C H S→View S c→Lp (c::C) H S
 |out {e C H R S}:bQ e H R→Lp C R S→Lp (e::C) H S
theorem Lp.parts {C H S:List Ent} (p:Lp C H S): ∃ O V,C.Perm (O++V)∧H.Perm (O++S)∧ ∀ c∈V,View S c:=by
 induction p with
 |nil=>exact⟨[],[],ja _,ja _,fun c hc=>by cases hc⟩
 | @view c C H S _ _ hv ih=>
  obtain⟨O,V,h1,h2,h3⟩:=ih;refine⟨O,c::V,(h1.cons c).trans List.perm_middle.symm,h2,fun d hd=> ?_⟩;rcases al.1 hd with rfl|hd
  ·exact hv
  ·exact h3 d hd
 |out p _ ih=>
  obtain⟨O,V,h1,h2,h3⟩:=ih;exact⟨_::O,V,h1.cons _,p.perm.trans (h2.cons _),h3⟩
theorem Lp.ok {C H S:List Ent} (p:Lp C H S) {w:World} (h:aG H w):aG (C++S.map fro) w:=by
 obtain⟨O,V,h1,h2,h3⟩:=p.parts;have hh:=h.perm h2;have hS:aG S w:=hh.sub (fj _ _);refine aG.perm (h1.symm.append_right _) ?_;have hp:=cu.1 hh.2;have hV: ∀ c∈V,c.jF=false:=fun c hc=>(h3 c hc).shared
 refine⟨fun e he=> ?_, ?_⟩
 ·rcases ei.1 he with he|he
  ·rcases ei.1 he with he|he
   ·exact hh.1 e (jh _ he)
   ·exact (h3 e he).holds w hS
  ·obtain⟨g,hg,rfl⟩:=fa.1 he;exact hS.1 g hg
 ·rw[fu];refine cu.2 ⟨hp.1,cu.2 ⟨?_, ?_, ?_⟩, ?_⟩
  ·exact List.Pairwise.imp_of_mem (R:=fun _ _=>True) (fun {a b} ha hb _ hx=>by rw[hV a ha,hV b hb] at hx;rcases hx with hx|hx<;>cases hx) (List.pairwise_of_forall (fun _ _=>trivial))
  ·refine List.Pairwise.map _ (fun a b _ hx=> ?_) hp.2.1;rcases hx with hx|hx<;>cases hx
  ·intro c hc d hd hx;obtain⟨g,hg,rfl⟩:=fa.1 hd;rw[hV c hc] at hx;rcases hx with hx|hx<;>cases hx
  ·intro o ho c hc hx b h4 h5;rcases ei.1 hc with hc|hc
   ·obtain⟨g,hg,h6⟩:=(h3 c hc).lD b h5;rw[hV c hc] at hx;rcases hx with hx|hx
    ·exact hp.2.2 o ho g hg (.inl hx) b h4 h6
    ·cases hx
   ·obtain⟨g,hg,rfl⟩:=fa.1 hc;rcases hx with hx|hx
    ·exact hp.2.2 o ho g hg (.inl hx) b h4 h5
    ·cases hx
theorem Lp.back {C H S H1:List Ent} (p:Lp C H S) {w w':World} (h:aG H w) (hx: ∀ e∈H1,e.jF=true) (h':aG (H1++S.map fro) w'):aG (H1++S) w':=by
 obtain⟨O,V,h1,h2,h3⟩:=p.parts;have hS:aG S w:=(h.perm h2).sub (fj _ _);have hp:=cu.1 h'.2;refine⟨fun e he=> ?_,cu.2 ⟨hp.1,hS.2,fun a ha b hb _ k h4 h5=> ?_⟩⟩
 ·rcases ei.1 he with he|he
  ·exact h'.1 e (jh _ he)
  ·exact h'.1 (fro e) (List.mem_append_right _ (fa.2 ⟨e,he,rfl⟩))
 ·exact hp.2.2 a ha (fro b) (fa.2 ⟨b,hb,rfl⟩) (.inl (hx a ha)) k h4 h5
class XL (L:List Ent):Prop where
 h: ∀ e∈L,e.jF=true
instance:XL []:=⟨fun e he=>by cases he⟩
instance {v : Value} {e sz m : Nat} {xs : List Value} {L : List Ent} [hl : XL L] : XL (own v e sz m xs :: L) := ⟨fun g hg => by
 rcases al.1 hg with rfl|hg
 ·rfl
 ·exact hl.h g hg⟩
instance {b : Nat} {cs : List Value} {t : TypeId} {L : List Ent} [hl : XL L] : XL (box b cs t :: L) := ⟨fun g hg => by
 rcases al.1 hg with rfl|hg
 ·rfl
 ·exact hl.h g hg⟩
class Xcl (R:Value→List Ent→Prop):Prop where
 h: ∀ v H,R v H→ ∀ e∈H,e.jF=true
instance {p:Value→Prop} {L:List Ent} [hl:XL L]:Xcl fun v H'=>p v∧H'=L:=⟨fun v H h=>by rw[h.2];exact hl.h⟩
instance {α:Sort _} {R:α→Value→List Ent→Prop} [hr: ∀ a,Xcl (R a)]:Xcl fun v H'=> ∃ a,R a v H':=⟨fun v H ⟨a,h⟩=>(hr a).h v H h⟩
instance {R R' : Value → List Ent → Prop} [hr : Xcl R] [zy : Xcl R'] : Xcl fun v H' => R v H' ∨ R' v H' := ⟨fun v H h => by
 rcases h with h|h
 ·exact hr.h v H h
 ·exact zy.h v H h⟩
instance {p:Prop} {R:Value→List Ent→Prop} [hr:Xcl R]:Xcl fun v H'=>p∧R v H':=⟨fun v H h=>hr.h v H h.2⟩
theorem alX {P:Program} {f:FuncId} {args:List Value} {H:List Ent} {R R':Value→List Ent→Prop} (h:Ct P f args H R) (hi: ∀ v H',R v H'→R' v H'):Ct P f args H R':=
 ⟨fun Fr w hw=>(h.go Fr w hw).mono fun e w' ⟨v,H',h1,h2,h3⟩=>⟨v,H',h1,hi v H' h2,h3⟩⟩
def dX:Op→Nat
 | .move _=>1
 | .assign _=>1
 | .pick _ _ _=>1
 | .extract _ _=>1
 | .load _ _=>2
 | .fieldAddr _ _ _=>3
 | .indexAddr _ _ _=>3
 | .field _ _ _=>3
 | .index _ _ _=>3
 | .nilCheck _=>3
 | .binOp _ _ _ _ _=>4
 | .unOp _ _ _=>4
 | .build _ _=>5
 | .makeFunc _ _ _=>5
 | .call c=>match c.callee with
  | .builtin _=>6
  |_=>7
 | .alloc _=>8
 | .box _ _=>8
 | .store _ _ _=>9
 | .buildSlice _ _ _=>10
 | .convert _ _ _=>11
 | .slice _ _ _ _ _=>12
 |_=>0
section
variable {P:Program} {n:Nat} {F:eE} {H R:List Ent} {o:Oper} {x y z:Operand} {v u z':Value} {T:TypeId}
def Cut {σ:Type} (n:Nat) (I:σ→Prop) (Fi:σ→eE) (Hi:σ→List Ent):fW:=fun e a w=>e= .normal∧ ∃ y,I y∧Ok (Fi y) n a∧aG (Hi y) w
theorem aKB {c:Code} {Q:fW} {σ:Type} (I:σ→Prop) (G:σ→eE) (E:σ→List Ent) (F0:eE) (S:List Ent) (first:dG P (Cut n I (fun x=>G x++F0) (fun x=>E x++S)) n c F H) (rest: ∀ x,I x→dL Q .normal n (G x++F0) (E x++S)):dG P Q n c F H:=
 fun a w ha hw=>wp_mono (first a w ha hw) fun e a w ⟨he,x,hI,hF,hH⟩=>by subst he;exact rest x hI a w hF hH
theorem qH (d:Nat) {c:Code} {Q:fW} {σ:Type} (I:σ→Prop) (G:σ→eE) (E:σ→List Ent) (first:dG P (Cut n I (fun x=>G x++F) (fun x=>E x++H.drop d)) n c F H) (rest: ∀ x,I x→dL Q .normal n (G x++F) (E x++H.drop d)):dG P Q n c F H:=aKB I G E F (H.drop d) first rest
theorem sL {σ:Type} {I:σ→Prop} {Fi:σ→eE} {Hi:σ→List Ent} (y:σ) (hI:I y) (hF:kP F (Fi y)) (hH:HSub H (Hi y)):dL (Cut n I Fi Hi) .normal n F H:=fun a w ha hw=>⟨rfl,y,hI,ha.sub hF,hH w hw⟩
theorem tY {t e sz by' N c m:Nat} {agg:Bool} {q:Option Addr} {k:IntKind} {j:Int} {rows:List (List Value)} [ht:pD P t e] [hs:Ty P e agg sz by' z'] (ho:o.op= .slice t x none (some y) none) (hx:ev F x=some (.slice q N c)) (hy:ev F y=some (.int k j)) (p:bQ (sl sz (.slice q N c) rows) H R) (hj:j=(m:Int)) (hm:m≤N):Qt P n o F H (.slice q m c):=fun a w ha hw=>by
 subst hj;have hb:bX w sz (.slice q N c) rows:=hw.1 _ p.mem;have hc:m≤c:=by
  rcases hb with⟨_,h1⟩|⟨b,off,cap,hv,h2,_⟩
  ·rcases h1 with h1|⟨a,cap,h1⟩
   ·cases h1;exact hm
   ·cases h1;omega
  ·cases hv;omega
 have he:P.elem t=e:=by simp [Program.elem,ht.h]
 have hu:P.underlying t=some (.slice (P.elem t)):=by rw[he];exact ht.h
 have h1:=run_slice_h (P:=P) w t q N c hu k (m:Int) Z8 Z8;rw[he,eH hs] at h1;have hv:sliced q 0 ((m:Int)).toNat c sz= .slice q m c:=by
  simp [sliced,Addr.add]
 simp only[aa,hv] at h1;simp only[execOp,ho,ej,eo,ha.eval hx,ha.eval hy,ab,ah,run_sliceAt_slice w t _ _ _ _ hu,h1,aa]
theorem oI (kd:Nat) {ops:Array Oper} {Q:fW} {rest:List Oper} {d:Nat} {op:Op} {ty:TypeId} {ps:String} {af:Array Edge} {g:Option (Nat×Bool)} {v:Value} (hk:dX op=kd) (hg:mV ops F ⟨some d,op,ty,ps,af,g⟩) (hd:ao d n=true) (h:Qt P n ⟨some d,op,ty,ps,af,g⟩ F H v) (k:cM P ops Q n rest ((d,v)::F) H):cM P ops Q n (⟨some d,op,ty,ps,af,g⟩::rest) F H:=eK hg hd h k
theorem yV (kd:Nat) {ops:Array Oper} {Q:fW} {rest:List Oper} {d:Nat} {op:Op} {ty:TypeId} {ps:String} {af:Array Edge} {g:Option (Nat×Bool)} {K:Value→List Ent→Prop} (hk:dX op=kd) (hg:mV ops F ⟨some d,op,ty,ps,af,g⟩) (hd:ao d n=true) (h:cN P n ⟨some d,op,ty,ps,af,g⟩ F H K) (k: ∀ v H',K v H'→cM P ops Q n rest ((d,v)::F) H'):cM P ops Q n (⟨some d,op,ty,ps,af,g⟩::rest) F H:=aL hg hd h k
theorem OV (kd:Nat) {ops:Array Oper} {Q:fW} {rest:List Oper} {op:Op} {ty:TypeId} {ps:String} {af:Array Edge} {g:Option (Nat×Bool)} {K:Value→List Ent→Prop} (hk:dX op=kd) (hg:mV ops F ⟨none,op,ty,ps,af,g⟩) (h:cN P n ⟨none,op,ty,ps,af,g⟩ F H K) (k: ∀ v H',K v H'→cM P ops Q n rest F H'):cM P ops Q n (⟨none,op,ty,ps,af,g⟩::rest) F H:=dC hg h k
theorem bG {f:FuncId} [hc:cG P f] {args:List Operand} {ts:Array TypeId} {vs:List Value} {C S:List Ent} {Rs:Value→List Ent→Prop} [hX:Xcl Rs] (ho:o.op= .call { callee:= .value (.func f),args:=args.toArray,argTypes:=ts }) (hs:Ct P f vs C Rs) (hv:WZ F args=some vs) (p:Lp C H S):cN P n o F H fun v H'=> ∃ H1,Rs v H1∧H'=H1++S:=fun Q a w next ha hw hn=>by
 have he:=nL ha hv;have e1:args.toArray.map a.eval=vs.toArray:=by simpa using he
 unfold bj;simp only[execOp,ho,resolve,Deferred.ofValue,Act.eval,invoke,e1,ab,ah,aa,lP];simp only[jq,jl,dz,bf];refine (hs.go _ w (p.ok hw)).mono ?_;rintro e w' ⟨v,H1,rfl,h1,h2⟩;exact hn v _ w' ⟨H1,h1,rfl⟩ (p.back hw (hX.h v H1 h1) h2)
theorem sM {f:FuncId} [hc:cG P f] {args:List Operand} {ts:Array TypeId} {vs:List Value} {C S:List Ent} {u:Value} (ho:o.op= .call { callee:= .value (.func f),args:=args.toArray,argTypes:=ts }) (hs:Ct P f vs C fun v H'=>v=u∧H'=[]) (hv:WZ F args=some vs) (p:Lp C H S):cN P n o F H fun v H'=>v=u∧H'=S:=fun Q a w next ha hw hn=>
 bG ho hs hv p Q a w next ha hw fun v H' w' ⟨H1,⟨h1,h2⟩,h3⟩ zy=>hn v H' w' ⟨h1,by rw[h3,h2];rfl⟩ zy
end
section
variable {P:Program} {ops:Array Oper} {Q:fW} {n:Nat} {Hq:List Ent} {nk:List Nat} {k:Nat} {L:Array Bool} {F:eE} {H:List Ent}
def atP (l:List Nat) (P:Program) (ops:Array Oper) (Q:fW) (n:Nat) (Hq:List Ent) (nk:List Nat) (k:Nat) (L:Array Bool) (F:eE) (H:List Ent):Prop:=eQ P ops Q n Hq nk k L F H
theorem oJ (l:List Nat) (h:atP l P ops Q n Hq nk k L F H):eQ P ops Q n Hq nk k L F H:=h
theorem tZ (h:eQ P ops Q n Hq nk k L F H):atP [] P ops Q n Hq nk k L F H:=h
theorem qR {i:Nat} {l:List Nat} {d:Nat} {op:Op} {ty:TypeId} {ps:String} {af:Array Edge} {g:Option (Nat×Bool)} {v:Value} (hi:ops[i]? =some ⟨some d,op,ty,ps,af,g⟩) (hg:mV ops F ⟨some d,op,ty,ps,af,g⟩) (hb:gW ops nk L i=true) (hs:HSub H Hq) (hd:ao d n=true) (hq:Qt P n ⟨some d,op,ty,ps,af,g⟩ F Hq v) (h:atP l P ops Q n Hq nk k (L.setIfInBounds i true) ((d,v)::F) H):atP (i::l) P ops Q n Hq nk (k+1) L F H:=vJ i hi hg hb hs hd hq h
theorem uA {i:Nat} {l:List Nat} {d:Nat} {op:Op} {ty:TypeId} {ps:String} {af:Array Edge} {j t:Nat} {b:Bool} (hi:ops[i]? =some ⟨some d,op,ty,ps,af,some (j,b)⟩) (zy:pX ops j=some t) (hv:look F t=some (.bool (!b))) (hb:gW ops nk L i=true) (hs:HSub H Hq) (hd:ao d n=true) (h:atP l P ops Q n Hq nk k (L.setIfInBounds i true) ((d,undef)::F) H):atP (i::l) P ops Q n Hq nk (k+1) L F H:=YC i hi zy hv hb hs hd h
end
theorem aPX {W:World}: ∀ e∈([]:List Ent),e.jF=false∧e.holds W:=fun e he=>by cases he
theorem aKC {W:World} {sz:Nat} {v:Value} {rows:List (List Value)} {H:List Ent} (h:bX W sz v rows) (hH: ∀ e∈H,e.jF=false∧e.holds W): ∀ e∈sl sz v rows::H,e.jF=false∧e.holds W:=fun e he=>by
 rcases al.1 he with rfl|he
 ·exact⟨rfl,h⟩
 ·exact hH e he
inductive JC:List Ent→List Ent→Prop
 |refl {T}:JC T T
 |nil {e sz T T'}:JC T T'→JC (own (.slice none 0 0) e sz 0 []::T) T'
 |cons {x T T'}:JC T T'→JC (x::T) (x::T')
theorem JC.mem {T T':List Ent} (h:JC T T'): ∀ x∈T,x∈T'∨ ∀ b, ¬ x.lD b:=by
 induction h with
 |refl=>exact fun x hx=> .inl hx
 |nil _ ih=>
  intro x hx;rcases al.1 hx with rfl|hx
  ·exact .inr fun b hb=>by cases hb
  ·exact ih x hx
 |cons _ ih=>
  intro x hx;rcases al.1 hx with rfl|hx
  ·exact .inl bu
  ·exact (ih x hx).imp (a8 _) id
theorem JC.ok {T T':List Ent} (h:JC T T') {w:World} (hw:aG T' w):aG T w:=by
 induction h with
 |refl=>exact hw
 |nil _ ih=>exact aS _ _ _ w (ih hw)
 |cons h0 ih=>
  have h1:=ih hw.tail;have hp:=an.1 hw.2;refine⟨fun f hf=> ?_,an.2 ⟨fun f hf hx b h2 h3=> ?_,h1.2⟩⟩
  ·rcases al.1 hf with rfl|hf
   ·exact hw.head
   ·exact h1.1 f hf
  ·rcases h0.mem f hf with h4|h4
   ·exact hp.1 f h4 hx b h2 h3
   ·exact h4 b h3
theorem HSub.aKD {H T T':List Ent} (n:JC T T') (h:HSub H T'):HSub H T:=fun w hw=>n.ok (h w hw)
theorem aU {e:Ent} {H R:List Ent} (h:bQ e H R:=by ((repeat (first|apply bQ.here|apply bQ.there));(first|done|fail))):bQ e H R:=h
theorem wt {ops:Array Oper} {F:eE} {o:Oper} (h:mV ops F o:=by (first|exact mV.none rfl|exact mV.on rfl rfl rfl)):mV ops F o:=h
theorem atQ {l l':List Value} {i:Nat} {v:Value} (h:l.set i v=l':=by (first|((repeat (first|apply aTJ|apply aTK));(first|done|fail))|rfl)):l.set i v=l':=h
theorem atT {l l':List Value} {i:Nat} {v:List Value} (h:gM l i v=l':=by (first|(simp only[gM];(first|done|fail))|(simp only[gM];exact rfl)|rfl)):gM l i v=l':=h
theorem nfa {a b c:Nat} (h:a+b=c:=by (first|(simp only[Nat.reduceAdd];(first|done|fail))|(simp only[Nat.reduceAdd];exact rfl)|rfl)):a+b=c:=h
theorem atU {pl:Nat→Option (Nat×Nat)} {l:List (Nat×Value)} {cs out:List Value} (h:Bld pl l cs out:=by (repeat (first|apply Bld.nil|(apply OR;(focus rfl);(focus rfl);(focus rfl);(focus exact atQ))|(apply aJQ;(focus rfl);(focus rfl);(focus rfl);(focus exact atT))))):Bld pl l cs out:=h
theorem pca {C H R:List Ent} (h:kT C H R:=by (repeat (first|(apply kT.nil;(focus (apply List.Sublist.refl)))|(apply kT.share;(focus exact aU);(first|exact oW _ _ _|exact tV _))|(apply kT.out;(focus exact aU))))):kT C H R:=h
theorem wY {C H S:List Ent} (h:Lp C H S:=by ((repeat' (first|apply Lp.nil|(apply Lp.view;(focus (first|exact oW _ _ _|exact tV _)))|(apply Lp.out;(focus exact aU))|(first|exact View.same (by exact aU) (by first|exact oW _ _ _|exact tV _)|exact View.emp (by first|rfl|assumption)|exact View.own (by exact aU) (by intro _;rfl) (by first|rfl|assumption|omega|simp)|exact View.part (by exact aU) (by omega)|exact View.front (by exact aU) (by intro _;rfl) (by first|rfl|assumption|omega|simp))));(first|done|fail))):Lp C H S:=h
theorem MN {H T:List Ent} (h:HSub H T:=by (first|exact HSub.refl _|(apply HSub.mB;(focus ((repeat (first|(apply kT.nil;(focus ((repeat (first|apply List.Sublist.refl|apply List.Sublist.cons));(first|done|fail))))|(apply kT.share;(focus exact aU);(first|exact oW _ _ _|exact tV _))|(apply kT.out;(focus exact aU))));(first|done|fail))))|(apply HSub.aAK;(focus ((repeat (first|(apply Cov.share;(focus exact aU);(first|exact oW _ _ _|exact tV _))|(apply Cov.out;(focus exact aU))|(apply Cov.base;(first|exact List.nil_sublist _|((repeat (first|apply List.Sublist.refl|apply List.Sublist.cons));(first|done|fail))))));(first|done|fail))))|(apply HSub.aeZ;(focus (exact pca;(first|done|fail))))|(apply HSub.BJ;(focus ((repeat (first|apply List.Sublist.refl|apply List.Sublist.cons));(first|done|fail))))|exact HSub.aKD (by (repeat (first|apply JC.nil|apply JC.cons));exact JC.refl) (HSub.aAK (by (repeat (first|(apply Cov.share;(focus exact aU);(first|exact oW _ _ _|exact tV _))|(apply Cov.out;(focus exact aU))|(apply Cov.base;(first|exact List.nil_sublist _|((repeat (first|apply List.Sublist.refl|apply List.Sublist.cons));(first|done|fail))))));(first|done|fail))))):HSub H T:=h
theorem kA {H T:List Ent} (h:HSub H T:=by (first|exact HSub.refl _|exact HSub.nil _|exact HSub.drop (HSub.refl _)|exact HSub.drop (HSub.drop (HSub.refl _))|exact HSub.drop (HSub.drop (HSub.drop (HSub.refl _)))|exact HSub.aeZ (by exact pca;(first|done|fail)))):HSub H T:=h
theorem JD {P:Program} {F:eE} {H:List Ent} {rs:List ResultVar} {v:Value} (h:DZ P F H rs v:=by (first|exact DZ.r0|(apply DZ.r1;(focus (first|exact lC.tmp rfl|(apply gQ;(focus rfl);(focus exact aU);(focus rfl))|(apply fG;(focus rfl);(focus exact aU)))))|(apply DZ.r2;(focus (first|exact lC.tmp rfl|(apply gQ;(focus rfl);(focus exact aU);(focus rfl))|(apply fG;(focus rfl);(focus exact aU))));(focus (first|exact lC.tmp rfl|(apply gQ;(focus rfl);(focus exact aU);(focus rfl))|(apply fG;(focus rfl);(focus exact aU)))))|(apply DZ.r3;(focus (first|exact lC.tmp rfl|(apply gQ;(focus rfl);(focus exact aU);(focus rfl))|(apply fG;(focus rfl);(focus exact aU))));(focus (first|exact lC.tmp rfl|(apply gQ;(focus rfl);(focus exact aU);(focus rfl))|(apply fG;(focus rfl);(focus exact aU))));(focus (first|exact lC.tmp rfl|(apply gQ;(focus rfl);(focus exact aU);(focus rfl))|(apply fG;(focus rfl);(focus exact aU)))))|(apply DZ.r4;(focus (first|exact lC.tmp rfl|(apply gQ;(focus rfl);(focus exact aU);(focus rfl))|(apply fG;(focus rfl);(focus exact aU))));(focus (first|exact lC.tmp rfl|(apply gQ;(focus rfl);(focus exact aU);(focus rfl))|(apply fG;(focus rfl);(focus exact aU))));(focus (first|exact lC.tmp rfl|(apply gQ;(focus rfl);(focus exact aU);(focus rfl))|(apply fG;(focus rfl);(focus exact aU))));(focus (first|exact lC.tmp rfl|(apply gQ;(focus rfl);(focus exact aU);(focus rfl))|(apply fG;(focus rfl);(focus exact aU)))))|(apply DZ.r5;(focus (first|exact lC.tmp rfl|(apply gQ;(focus rfl);(focus exact aU);(focus rfl))|(apply fG;(focus rfl);(focus exact aU))));(focus (first|exact lC.tmp rfl|(apply gQ;(focus rfl);(focus exact aU);(focus rfl))|(apply fG;(focus rfl);(focus exact aU))));(focus (first|exact lC.tmp rfl|(apply gQ;(focus rfl);(focus exact aU);(focus rfl))|(apply fG;(focus rfl);(focus exact aU))));(focus (first|exact lC.tmp rfl|(apply gQ;(focus rfl);(focus exact aU);(focus rfl))|(apply fG;(focus rfl);(focus exact aU))));(focus (first|exact lC.tmp rfl|(apply gQ;(focus rfl);(focus exact aU);(focus rfl))|(apply fG;(focus rfl);(focus exact aU))))))):DZ P F H rs v:=h
theorem fsa {F G:eE} {l:List Nat} (h:pW F l G:=by (repeat' (first|exact pW.nil|refine pW.skip rfl ?_|refine pW.cons (by rfl) ?_|refine pW.cons ?_ ?_))):pW F l G:=h
theorem qg1 {P:Program} {n:Nat} {o:Oper} {F:eE} {H:List Ent} {v:Value} (h:Qt P n o F H v:=by (first|exact bT rfl rfl|exact EA rfl rfl|exact XX rfl rfl rfl|exact afK rfl rfl rfl|exact afL rfl rfl rfl)):Qt P n o F H v:=h
theorem qg2 {P:Program} {n:Nat} {o:Oper} {F:eE} {H:List Ent} {v:Value} (h:Qt P n o F H v:=by (first|exact sH rfl rfl (by exact aU) rfl|exact BK rfl rfl (by exact aU) (by rfl)|exact MH rfl rfl (by exact aU) (by assumption) rfl|exact MI rfl rfl (by exact aU) (by assumption) (by rfl)|exact ED rfl rfl (by exact aU) (by intro _;rfl) (by assumption) rfl|exact EE rfl rfl (by exact aU) (by intro _;rfl) (by assumption) rfl)):Qt P n o F H v:=h
theorem qg3 {P:Program} {n:Nat} {o:Oper} {F:eE} {H:List Ent} {v:Value} (h:Qt P n o F H v:=by (first|exact ME rfl rfl nfa|exact AO rfl rfl nfa (by exact aU) (by assumption)|exact AP rfl rfl nfa (by exact aU) (by omega)|exact lF rfl rfl rfl (by exact aU) rfl (by simp only[List.length_map];omega)|exact cE rfl rfl rfl (by exact aU) rfl (by omega)|exact EH rfl rfl)):Qt P n o F H v:=h
theorem qg4 {P:Program} {n:Nat} {o:Oper} {F:eE} {H:List Ent} {v:Value} (h:Qt P n o F H v:=by (first|exact yT rfl rfl rfl rfl (by first|exact aOO (by omega)|exact aOP (by omega)|exact aOQ (by omega)|exact aOR (by omega)|exact aOS (by omega)|exact aOT (by omega)|exact aOU (by omega)|exact aOV (by omega)|exact aOW (by omega)|exact aOX (by omega)|exact aOY (by omega)|exact aOZ (by omega))|exact apX rfl rfl|exact apY rfl rfl|exact MD rfl rfl rfl (by omega)|exact XY rfl rfl rfl (by omega)|exact aON rfl rfl rfl (by omega)|exact afS rfl (by rfl) (by rfl) (by first|assumption|exact rfl)|exact afU rfl (by rfl) (by rfl) (by first|assumption|(intro h;exact absurd (congrArg ByteArray.toList h) (by decide)))|exact afT rfl (by rfl) (by rfl) (by first|assumption|exact rfl)|exact afV rfl (by rfl) (by rfl) (by first|assumption|(intro h;exact absurd (congrArg ByteArray.toList h) (by decide))))):Qt P n o F H v:=h
theorem qg5 {P:Program} {n:Nat} {o:Oper} {F:eE} {H:List Ent} {v:Value} (h:Qt P n o F H v:=by (first|exact aTG rfl rfl (by exact atU)|exact QL rfl rfl rfl)):Qt P n o F H v:=h
theorem qg6 {P:Program} {n:Nat} {o:Oper} {F:eE} {H:List Ent} {v:Value} (h:Qt P n o F H v:=by (first|exact ML rfl rfl|exact IY rfl rfl|exact aPA rfl rfl rfl)):Qt P n o F H v:=h
theorem qta {P:Program} {n:Nat} {o:Oper} {F:eE} {H:List Ent} {v:Value} (h:Qt P n o F H v:=by (first|exact bT rfl rfl|exact EA rfl rfl|exact ME rfl rfl nfa|exact sH rfl rfl (by exact aU) rfl|exact BK rfl rfl (by exact aU) (by rfl)|exact XX rfl rfl rfl|exact ML rfl rfl|exact IY rfl rfl|exact afK rfl rfl rfl|exact afL rfl rfl rfl|exact apX rfl rfl|exact apY rfl rfl|exact MD rfl rfl rfl (by omega)|exact XY rfl rfl rfl (by omega)|exact aON rfl rfl rfl (by omega)|exact MH rfl rfl (by exact aU) (by assumption) rfl|exact MI rfl rfl (by exact aU) (by assumption) (by rfl)|exact AO rfl rfl nfa (by exact aU) (by assumption)|exact AP rfl rfl nfa (by exact aU) (by omega)|exact lF rfl rfl rfl (by exact aU) rfl (by simp only[List.length_map];omega)|exact cE rfl rfl rfl (by exact aU) rfl (by omega)|exact ED rfl rfl (by exact aU) (by intro _;rfl) (by assumption) rfl|exact EE rfl rfl (by exact aU) (by intro _;rfl) (by assumption) rfl|exact aTG rfl rfl (by exact atU)|exact afS rfl (by rfl) (by rfl) (by first|assumption|exact rfl)|exact afU rfl (by rfl) (by rfl) (by first|assumption|(intro h;exact absurd (congrArg ByteArray.toList h) (by decide)))|exact afT rfl (by rfl) (by rfl) (by first|assumption|exact rfl)|exact afV rfl (by rfl) (by rfl) (by first|assumption|(intro h;exact absurd (congrArg ByteArray.toList h) (by decide)))|exact EH rfl rfl|exact QL rfl rfl rfl|exact aPA rfl rfl rfl|exact yT rfl rfl rfl rfl (by first|exact aOO (by omega)|exact aOP (by omega)|exact aOQ (by omega)|exact aOR (by omega)|exact aOS (by omega)|exact aOT (by omega)|exact aOU (by omega)|exact aOV (by omega)|exact aOW (by omega)|exact aOX (by omega)|exact aOY (by omega)|exact aOZ (by omega)))):Qt P n o F H v:=h
end sl
namespace sl
open Go.RowKit bO
abbrev str (l:List UInt8):ByteArray:=⟨l.toArray⟩
theorem cZ (l:List UInt8):(str l).size=l.length:=by simp [kh]
theorem rD (l:List UInt8):(str l).toList=l:=by rw[Lib.toList_data]
theorem wZ (l:List UInt8) (i j:Nat):(str l).extract i j=str ((l.drop i).take (j-i)):=by
 apply ji;simp [lh,k8]
theorem aKE (a b:List UInt8):str a++str b=str (a++b):=by
 apply ji;simp
class Knd (P:Program) (t:TypeId):Prop where
 h:(P.underlying t).isSome=true
instance {P:Program} {t:TypeId} {k:IntKind} [h:AA P t k]:Knd P t:=⟨by rw[h.h];rfl⟩
section
variable {P:Program} {n:Nat} {F:eE} {H R:List Ent} {o:Oper} {x y z:Operand} {v u z':Value} {T S:TypeId}
theorem aPY {t:Nat} {l:List UInt8} [ht:EB P t] (ho:o.op= .call { callee:= .builtin .len,args:= #[x],argTypes:= #[t] }) (hx:ev F x=some (.string (str l))):Qt P n o F H (.int .i64 (l.length:Int)):=by
 have:=IY (P:=P) (n:=n) (H:=H) (ht:=ht) ho hx;rwa [cZ] at this
theorem aTL {a b:List UInt8} {T':TypeId} (ho:o.op= .binOp .add T x y T') (hx:ev F x=some (.string (str a))) (hy:ev F y=some (.string (str b))) (h:a.length+b.length≤9223372036854775807):Qt P n o F H (.string (str (a++b))):=fun ac w ha _=>by
 have h2:=run_string_add_sum (P:=P) (w:=w) (str a) (str b) (by rw[cZ,cZ];exact h);simp only[execOp,ho,ha.eval hx,ha.eval hy,eqGuard,fp,if_true,binOp_string_add,ab,ah,aa,h2,aKE]
theorem aPZ {a b:List UInt8} {T':TypeId} {r:Bool} (ho:o.op= .binOp .eql T x y T') (hx:ev F x=some (.string (str a))) (hy:ev F y=some (.string (str b))) (hr:(a==b)=r):Qt P n o F H (.bool r):=by
 have:=IZ (P:=P) (n:=n) (H:=H) ho hx hy;rw[rD,rD,hr] at this;exact this
theorem aKF {a b:List UInt8} {T':TypeId} {r:Bool} (ho:o.op= .binOp .neq T x y T') (hx:ev F x=some (.string (str a))) (hy:ev F y=some (.string (str b))) (hr:(a==b)=r):Qt P n o F H (.bool (!r)):=by
 have:=JA (P:=P) (n:=n) (H:=H) ho hx hy;rw[rD,rD,hr] at this;exact this
theorem aTM {k:IntKind} {i:Int} {j:Nat} {l:List UInt8} {b:UInt8} [ht:EB P T] (ho:o.op= .index T x y) (hx:ev F x=some (.string (str l))) (hy:ev F y=some (.int k i)) (hi:i=(j:Int)) (hb:l[j]? =some b):Qt P n o F H (.int .u8 (b.toNat:Int)):=fun a w ha _=>by
 subst hi;obtain⟨hl,hb⟩:=aj.1 hb;have h1:=run_index_string (P:=P) w T (str l) k (j:Int) ht.h;rw[dif_pos ⟨Z8,by rw[cZ];omega⟩] at h1;simp only[execOp,ho,ha.eval hx,ha.eval hy,ab,h1,aa,ah,dc];have:(str l)[j]'(by rw[cZ];exact hl)=b:=by rw[←hb];rfl
 rw[this]
theorem aQA {k k':IntKind} {i j:Int} {i' j':Nat} {l m:List UInt8} [ht:EB P T] (ho:o.op= .slice T x (some y) (some z) none) (hx:ev F x=some (.string (str l))) (hy:ev F y=some (.int k i)) (hz:ev F z=some (.int k' j)) (hi:i=(i':Int)) (hj:j=(j':Int)) (hij:i'≤j') (hjl:j'≤l.length) (hm:(l.drop i').take (j'-i')=m):Qt P n o F H (.string (str m)):=fun a w ha _=>by
 subst hi;subst hj;subst hm;have h1:=run_slice_string (P:=P) w T (str l) k k' (i':Int) (j':Int) ht.h Z8 Z8 (by rw[cZ];omega);simp only[execOp,ho,ej,eo,ha.eval hx,ha.eval hy,ha.eval hz,run_sliceAt_string w T _ _ _ _ ht.h,ab,h1,aa,ah,dc,wZ]
theorem aQB {k':IntKind} {j:Int} {j':Nat} {l m:List UInt8} [ht:EB P T] (ho:o.op= .slice T x none (some z) none) (hx:ev F x=some (.string (str l))) (hz:ev F z=some (.int k' j)) (hj:j=(j':Int)) (hjl:j'≤l.length) (hm:l.take j'=m):Qt P n o F H (.string (str m)):=fun a w ha _=>by
 subst hj;subst hm;have h1:=run_slice_string_h (P:=P) w T (str l) ht.h k' (j':Int) Z8 (by rw[cZ];omega);simp only[execOp,ho,ej,eo,ha.eval hx,ha.eval hz,run_sliceAt_string w T _ _ _ _ ht.h,ab,h1,aa,ah,dc,wZ,gx,kr]
theorem aQC {k:IntKind} {i:Int} {i':Nat} {l m:List UInt8} [ht:EB P T] (ho:o.op= .slice T x (some y) none none) (hx:ev F x=some (.string (str l))) (hy:ev F y=some (.int k i)) (hi:i=(i':Int)) (hil:i'≤l.length) (hm:l.drop i'=m):Qt P n o F H (.string (str m)):=fun a w ha _=>by
 subst hi;subst hm;have h1:=run_slice_string_l (P:=P) w T (str l) ht.h k (i':Int) Z8 (by rw[cZ];omega);have h2:(l.drop i').take ((str l).size-i')=l.drop i':=by rw[cZ,bd Ja]
 simp only[execOp,ho,ej,eo,ha.eval hx,ha.eval hy,run_sliceAt_string w T _ _ _ _ ht.h,ab,h1,aa,ah,dc,wZ,h2]
theorem aQD {a b r:Bool} {T':TypeId} (ho:o.op= .binOp .eql T x y T') (hx:ev F x=some (.bool a)) (hy:ev F y=some (.bool b)) (hT:P.underlying T=some .bool) (hr:(a==b)=r):Qt P n o F H (.bool r):=fun ac w ha _=>by
 subst hr;have h1:(Op.equal T (.bool a) (.bool b)).run P w= .ok (a==b) w:=run_equalIn_bool w 9999 T a b hT;simp [execOp,ho,ha.eval hx,ha.eval hy,eqGuard,binOp,h1]
theorem aQE {a b r:Bool} {T':TypeId} (ho:o.op= .binOp .neq T x y T') (hx:ev F x=some (.bool a)) (hy:ev F y=some (.bool b)) (hT:P.underlying T=some .bool) (hr:(a !=b)=r):Qt P n o F H (.bool r):=fun ac w ha _=>by
 subst hr;have h1:(Op.equal T (.bool a) (.bool b)).run P w= .ok (a==b) w:=run_equalIn_bool w 9999 T a b hT;simp [execOp,ho,ha.eval hx,ha.eval hy,eqGuard,binOp,h1,bne]
section ints
variable {k k':IntKind} {i j r:Int} {T':TypeId}
theorem aQF [hs:Knd P S] [hd:AA P T k'] (ho:o.op= .convert S T x) (hx:ev F x=some (.int k i)) (hr:k'.wrap i=r):Qt P n o F H (.int k' r):=fun a w ha _=>by
 subst hr;have hk:P.intKind T=k':=by simp [Program.intKind,hd.h]
 have h1:=run_convert_int (P:=P) w S T k i hs.h (by rw[hk];exact hd.h);simp only[execOp,ho,ha.eval hx,h1,hk,ab,aa,ah]
theorem tC (h: -9223372036854775808≤i∧i≤9223372036854775807):kx.wrap i=i:=IntWalk.i64_in _ h
theorem QN (h:0≤i∧i≤18446744073709551615):jz.wrap i=i:=IntWalk.u64_in _ h
theorem QO (h:0≤i∧i≤4294967295):j0.wrap i=i:=IntWalk.u32_in _ h
theorem QP (h: -2147483648≤i∧i≤2147483647):IntKind.i32.wrap i=i:=IntWalk.i32_in _ h
theorem YG (h:0≤i∧i≤255):kz.wrap i=i:=IntWalk.u8_in _ h
theorem QQ:kz.wrap i=i%256:=IntKind.wrap_u8 i
theorem EL:j0.wrap i=i%4294967296:=IntKind.wrap_u32 i
theorem EM:jz.wrap i=i%18446744073709551616:=IntKind.wrap_u64 i
theorem aBA (ho:o.op= .binOp .add T x y T') (hx:ev F x=some (.int k i)) (hy:ev F y=some (.int k j)) (hr:k.wrap (i+j)=r):Qt P n o F H (.int k r):=hr ▸ aJL ho hx hy
theorem aBB (ho:o.op= .binOp .sub T x y T') (hx:ev F x=some (.int k i)) (hy:ev F y=some (.int k j)) (hr:k.wrap (i-j)=r):Qt P n o F H (.int k r):=hr ▸ aJM ho hx hy
theorem aBC (ho:o.op= .binOp .mul T x y T') (hx:ev F x=some (.int k i)) (hy:ev F y=some (.int k j)) (hr:k.wrap (i*j)=r):Qt P n o F H (.int k r):=hr ▸ aJN ho hx hy
theorem aTN (ho:o.op= .binOp .quo T x y T') (hx:ev F x=some (.int .i64 i)) (hy:ev F y=some (.int .i64 j)) (h:0≤i∧i≤9223372036854775807∧1≤j):Qt P n o F H (.int .i64 (i/j)):=fun a w ha _=>by
 have h1:=IntWalk.i64_quo i j h;have h2: ¬ j=0:=Z8
 simp [execOp,ho,ha.eval hx,ha.eval hy,eqGuard,binOp,Op.intDiv,h2,h1]
theorem aTO (ho:o.op= .binOp .rem T x y T') (hx:ev F x=some (.int .i64 i)) (hy:ev F y=some (.int .i64 j)) (h:0≤i∧1≤j):Qt P n o F H (.int .i64 (i%j)):=fun a w ha _=>by
 have h1:=IntWalk.rem_in i j h.1;have h2: ¬ j=0:=Z8
 simp [execOp,ho,ha.eval hx,ha.eval hy,eqGuard,binOp,Op.intDiv,h2,h1]
class Pw (j:Int) (p:outParam Int):Prop where
 h:(2:Int)^j.toNat=p
 lo:0≤j
 hi:j≤64
theorem aPD {p:Int} [hp:Pw j p] (ho:o.op= .binOp .shr T x y T') (hx:ev F x=some (.int k i)) (hy:ev F y=some (.int k' j)) (hb:gj j.toNat k.bits=true):Qt P n o F H (.int k (i/p)):=fun a w ha _=>by
 have h0:=hp.lo;have h1: ¬ j<0:=Z8
 have h2:min j.toNat k.bits=j.toNat:=j9 (ay hb);have h3:=hp.h;have h4:i.fdiv p=i/p:=by
  rw[Int.fdiv_eq_ediv_of_nonneg];rw[←h3];exact iu (Int.pow_pos Z9)
 simp only[execOp,ho,ha.eval hx,ha.eval hy,eqGuard,fp,if_true,binOp,Op.shift,h1,if_false,h2,h3,h4,ab,ah,aa]
theorem aBD {p:Int} [hp:Pw j p] (ho:o.op= .binOp .shl T x y T') (hx:ev F x=some (.int k i)) (hy:ev F y=some (.int k' j)) (hb:gj j.toNat k.bits=true) (hr:k.wrap (i*p)=r):Qt P n o F H (.int k r):=fun a w ha _=>by
 have h0:=hp.lo;have h1: ¬ j<0:=Z8
 have h2:min j.toNat k.bits=j.toNat:=j9 (ay hb);have h3:=hp.h;subst hr;simp only[execOp,ho,ha.eval hx,ha.eval hy,eqGuard,fp,if_true,binOp,Op.shift,h1,if_false,h2,h3,ab,ah,aa]
def aTP:BinOp→Bool
 | .and| .or| .xor| .andNot=>true
 |_=>false
theorem aQG {op:BinOp} (ho:o.op= .binOp op T x y T') (zy:aTP op=true) (hx:ev F x=some (.int k i)) (hy:ev F y=some (.int k j)) (hr:bits op k i j=r):Qt P n o F H (.int k r):=fun a w ha _=>by
 subst hr;cases op<;>first|(cases zy;done)|(simp [execOp,ho,ha.eval hx,ha.eval hy,eqGuard,binOp];rfl)
end ints
def fY (b:UInt8):List Value:=[.int .u8 (b.toNat:Int)]
theorem acO (b:UInt8): ∀ u∈fY b,u.oneCell'=true:=by simp [fY,a6]
inductive U8s:List Value→List Int→Prop
 |nil:U8s [] []
 |cons {z xs zs}:U8s xs zs→U8s (.int .u8 z::xs) (z::zs)
theorem U8s.eq {xs:List Value} {zs:List Int} (h:U8s xs zs):xs=zs.map (gh .u8):=by
 induction h with
 |nil=>rfl
 |cons _ ih=>rw[ih];rfl
theorem afX: ∀ l:List UInt8,U8s (flat fY l) (l.map fun b=>(b.toNat:Int))
 |[]=> .nil
 |b::l=> .cons (afX l)
theorem MP {e m:Nat} {xs:List Value} {zs:List Int} {l:List UInt8} [hs:pD P S e] [he:AA P e .u8] [hd:EB P T] (ho:o.op= .convert S T x) (hx:ev F x=some v) (p:bQ (own v e 1 m xs) H R) (hz:U8s xs zs) (hl:(zs.map fun z=>ky z.toNat)=l):Qt P n o F H (.string (str l)):=fun a w ha hw=>by
 subst hl;have hb:w.ownsRow 0 e 1 v m xs:=hw.1 _ p.mem;have zy:=hz.eq;have hlen:zs.length=m:=by
  have:=hb.1;rw[zy] at this;simpa using this
 have key:(convert S T v).run P w= .ok (.string (str (zs.map fun z=>ky z.toNat))) w:=by
  rcases hb.2 with⟨rfl,h0⟩|⟨g,cap,cur,rfl,h0,hg,h1,h2,h3,h4⟩
  ·have:zs=[]:=by
    apply bp;omega
   subst this;rw[run_convert_bytes_nil (P:=P) w S e hs.h he.h 0 0 T hd.h];rfl
  ·rw[run_convert_bytes_arg (P:=P) w S e hs.h he.h g 0 m cap zs hlen ?_ T hd.h]
   ·rfl
   ·intro i hi;rw[cell_of_row _ _ _ _ _ _ hg,dj];have h5:(cur.toList.take (m*1))[i]? =xs[i]? :=by rw[h4]
    rw[au,Jg Z8] at h5;rw[←jc,h5,zy,dp,ak Z8];simp [List.getD,ak (show i<zs.length by omega)]
 simp only[execOp,ho,ha.eval hx,key,ab,aa,ah]
theorem atW {e m:Nat} {l:List UInt8} [hs:pD P S e] [he:AA P e .u8] [hd:EB P T] (ho:o.op= .convert S T x) (hx:ev F x=some v) (p:bQ (own v e 1 m (flat fY l)) H R):Qt P n o F H (.string (str l)):=
 MP ho hx p (afX l) (by
  rw[List.map_map]
  conv=>rhs;rw[←List.map_id l]
  apply List.map_congr_left;intro b _;simp)
end
instance:Pw 1 2:=⟨Z9,Z9,Z9⟩
instance:Pw 8 256:=⟨Z9,Z9,Z9⟩
instance:Pw 16 65536:=⟨Z9,Z9,Z9⟩
instance:Pw 24 16777216:=⟨Z9,Z9,Z9⟩
section
variable {P:Program} {ops:Array Oper} {Q:fW} {n:Nat} {Hq:List Ent} {nk:List Nat} {r i m:Nat} {L:Array Bool} {F:eE} {H:List Ent}
def dM (P:Program) (ops:Array Oper) (Q:fW) (n:Nat) (Hq:List Ent) (nk:List Nat) (r i m:Nat) (L:Array Bool) (F:eE) (H:List Ent):Prop:=eQ P ops Q n Hq nk m L F H
theorem afY {id:Nat} {l:List Oper} (hm:P.follows .mixedOrders=true) (hl:l.length=m) (h:dM P l.toArray Q n H [] 1 0 m (fh m false) F H):dG P Q n (.region id l.toArray true) F H:=by
 subst hl;exact JB H [] hm h
theorem aD {id:Nat} {l:List Oper} {Hq:List Ent} (is nk:List Nat) (hq:rC is H=Hq) (hm:P.follows .mixedOrders=true) (hl:l.length=m) (h:dM P l.toArray Q n Hq nk 1 0 m (fh m false) F H):dG P Q n (.region id l.toArray true) F H:=by
 subst hl;exact JB Hq nk hm h
theorem aBE (hr:ax .any ops L=[]) (h:dL Q .normal n F H):dM P ops Q n Hq nk r i 0 L F H:=tW hr h
variable {d:Nat} {op:Op} {ty:TypeId} {ps:String} {af:Array Edge} {g:Option (Nat×Bool)} {v:Value}
theorem bN (kd:Nat) (hi:ops[i]? =some ⟨some d,op,ty,ps,af,g⟩) (hk:dX op=kd) (hg:mV ops F ⟨some d,op,ty,ps,af,g⟩) (hb:gW ops nk L i=true) (hs:HSub H Hq) (hd:ao d n=true) (hq:Qt P n ⟨some d,op,ty,ps,af,g⟩ F Hq v) (h:dM P ops Q n Hq nk r (i+1) m (L.setIfInBounds i true) ((d,v)::F) H):dM P ops Q n Hq nk r i (m+1) L F H:=vJ i hi hg hb hs hd hq h
theorem aBF {j t:Nat} {b:Bool} (hi:ops[i]? =some ⟨some d,op,ty,ps,af,some (j,b)⟩) (zy:pX ops j=some t) (hv:look F t=some (.bool (!b))) (hb:gW ops nk L i=true) (hs:HSub H Hq) (hd:ao d n=true) (h:dM P ops Q n Hq nk r (i+1) m (L.setIfInBounds i true) ((d,undef)::F) H):dM P ops Q n Hq nk r i (m+1) L F H:=YC i hi zy hv hb hs hd h
theorem atX (hL:L.getD i false=true) (h:dM P ops Q n Hq nk r (i+1) m L F H):dM P ops Q n Hq nk r i m L F H:=h
theorem atY (hs:ao i ops.size=true) (h:dM P ops Q n Hq nk r (i+1) m L F H):dM P ops Q n Hq nk r i m L F H:=h
theorem atZ (hs:ao i ops.size=false) (h:dM P ops Q n Hq nk r 0 m L F H):dM P ops Q n Hq nk (r+1) i m L F H:=h
theorem YH {S S':World→Prop} (hS: ∀ w,S' w→S w): ∀ (k:Nat) (L:Array Bool) (a:Act) (w:World),OE P ops Q S' nk k L a w→OE P ops Q S nk k L a w
 |0,_,_,_,h=>h
 |k+1,_,_,_,h=>⟨h.1,fun i hi=>wpOp_mono (fun a' w' h'=>⟨fun hn=>hS w' (h'.1 hn),YH hS k _ a' w' h'.2⟩) (h.2 i hi)⟩
theorem YI (hs:HSub H Hq) (h:dM P ops Q n H nk r i m L F H):dM P ops Q n Hq nk r i m L F H:=fun a w ha hw=>YH hs _ _ _ _ (h a w ha hw)
theorem aB (j:Nat) (h:dM P ops Q n Hq nk r j m L F H):dM P ops Q n Hq nk r i m L F H:=h
theorem auA (kd:Nat) (hi:ops[i]? =some ⟨some d,op,ty,ps,af,g⟩) (hk:dX op=kd) (hr:ax .any ops L=[i]) (hg:mV ops F ⟨some d,op,ty,ps,af,g⟩) (hd:ao d n=true) (hq:Qt P n ⟨some d,op,ty,ps,af,g⟩ F H v) (hs:HSub H Hq) (h:dM P ops Q n Hq nk r (i+1) m (L.setIfInBounds i true) ((d,v)::F) H):dM P ops Q n Hq nk r i (m+1) L F H:=
 qG i hr (YD i hi hg hd (iA hq) fun u H' ⟨h1,h2⟩=>by subst h1;subst h2;exact⟨fun _=>hs,h⟩)
theorem jH (kd:Nat) {K:Value→List Ent→Prop} (hi:ops[i]? =some ⟨some d,op,ty,ps,af,g⟩) (hk:dX op=kd) (hr:ax .any ops L=[i]) (hg:mV ops F ⟨some d,op,ty,ps,af,g⟩) (hd:ao d n=true) (h:cN P n ⟨some d,op,ty,ps,af,g⟩ F H K) (hk: ∀ v H',K v H'→(nk.contains i=false→HSub H' Hq)∧dM P ops Q n Hq nk r (i+1) m (L.setIfInBounds i true) ((d,v)::F) H'):dM P ops Q n Hq nk r i (m+1) L F H:=qG i hr (YD i hi hg hd h hk)
theorem JE (kd:Nat) {K:Value→List Ent→Prop} (hi:ops[i]? =some ⟨none,op,ty,ps,af,g⟩) (hk:dX op=kd) (hr:ax .any ops L=[i]) (hg:mV ops F ⟨none,op,ty,ps,af,g⟩) (h:cN P n ⟨none,op,ty,ps,af,g⟩ F H K) (hk: ∀ v H',K v H'→(nk.contains i=false→HSub H' Hq)∧dM P ops Q n Hq nk r (i+1) m (L.setIfInBounds i true) F H'):dM P ops Q n Hq nk r i (m+1) L F H:=qG i hr (aqI i hi hg h hk)
theorem cD (j:Nat) (hr:ax .any ops L=[i,j]) (h1:QM P ops Q n Hq nk m L F H i) (h2:QM P ops Q n Hq nk m L F H j):dM P ops Q n Hq nk r i (m+1) L F H:=aJS i j hr h1 h2
theorem BM (r i:Nat) {K:Value→List Ent→Prop} (hi:ops[i]? =some ⟨some d,op,ty,ps,af,g⟩) (hg:mV ops F ⟨some d,op,ty,ps,af,g⟩) (hd:ao d n=true) (h:cN P n ⟨some d,op,ty,ps,af,g⟩ F H K) (hk: ∀ v H',K v H'→(nk.contains i=false→HSub H' Hq)∧dM P ops Q n Hq nk r 0 m (L.setIfInBounds i true) ((d,v)::F) H'):QM P ops Q n Hq nk m L F H i:=YD i hi hg hd h hk
theorem qS {bop:BinOp} {k:IntKind} {p q:Int} {T T':TypeId} {x y:Operand} (hi:ops[i]? =some ⟨some d, .binOp bop T x y T',ty,ps,af,g⟩) (hc:apZ bop=true) (hx:ev F x=some (.int k p)) (hy:ev F y=some (.int k q)) (hg:mV ops F ⟨some d, .binOp bop T x y T',ty,ps,af,g⟩) (hb:gW ops nk L i=true) (hs:HSub H Hq) (hd:ao d n=true) (h1:eW bop p q=true→dM P ops Q n Hq nk r (i+1) m (L.setIfInBounds i true) ((d, .bool true)::F) H) (h2:eW bop p q=false→dM P ops Q n Hq nk r (i+1) m (L.setIfInBounds i true) ((d, .bool false)::F) H):dM P ops Q n Hq nk r i (m+1) L F H:=by
 cases zy:eW bop p q with
 |true=>exact vJ i hi hg hb hs hd (yT rfl hc hx hy zy) (h1 zy)
 |false=>exact vJ i hi hg hb hs hd (yT rfl hc hx hy zy) (h2 zy)
theorem aBG {k:IntKind} {p q:Int} {T T':TypeId} {x y:Operand} (hi:ops[i]? =some ⟨some d, .binOp .lss T x y T',ty,ps,af,g⟩) (hx:ev F x=some (.int k p)) (hy:ev F y=some (.int k q)) (hg:mV ops F ⟨some d, .binOp .lss T x y T',ty,ps,af,g⟩) (hb:gW ops nk L i=true) (hs:HSub H Hq) (hd:ao d n=true) (h1:p<q→dM P ops Q n Hq nk r (i+1) m (L.setIfInBounds i true) ((d, .bool true)::F) H) (h2:q≤p→dM P ops Q n Hq nk r (i+1) m (L.setIfInBounds i true) ((d, .bool false)::F) H):dM P ops Q n Hq nk r i (m+1) L F H:=
 qS hi rfl hx hy hg hb hs hd (fun h=>h1 (aAN h)) fun h=>h2 (aqC h)
theorem aBH {k:IntKind} {p q:Int} {T T':TypeId} {x y:Operand} (hi:ops[i]? =some ⟨some d, .binOp .leq T x y T',ty,ps,af,g⟩) (hx:ev F x=some (.int k p)) (hy:ev F y=some (.int k q)) (hg:mV ops F ⟨some d, .binOp .leq T x y T',ty,ps,af,g⟩) (hb:gW ops nk L i=true) (hs:HSub H Hq) (hd:ao d n=true) (h1:p≤q→dM P ops Q n Hq nk r (i+1) m (L.setIfInBounds i true) ((d, .bool true)::F) H) (h2:q<p→dM P ops Q n Hq nk r (i+1) m (L.setIfInBounds i true) ((d, .bool false)::F) H):dM P ops Q n Hq nk r i (m+1) L F H:=
 qS hi rfl hx hy hg hb hs hd (fun h=>h1 (aAO h)) fun h=>h2 (aqD h)
theorem aBI {k:IntKind} {p q:Int} {T T':TypeId} {x y:Operand} (hi:ops[i]? =some ⟨some d, .binOp .gtr T x y T',ty,ps,af,g⟩) (hx:ev F x=some (.int k p)) (hy:ev F y=some (.int k q)) (hg:mV ops F ⟨some d, .binOp .gtr T x y T',ty,ps,af,g⟩) (hb:gW ops nk L i=true) (hs:HSub H Hq) (hd:ao d n=true) (h1:q<p→dM P ops Q n Hq nk r (i+1) m (L.setIfInBounds i true) ((d, .bool true)::F) H) (h2:p≤q→dM P ops Q n Hq nk r (i+1) m (L.setIfInBounds i true) ((d, .bool false)::F) H):dM P ops Q n Hq nk r i (m+1) L F H:=
 qS hi rfl hx hy hg hb hs hd (fun h=>h1 (aAP h)) fun h=>h2 (aqE h)
theorem aBJ {k:IntKind} {p q:Int} {T T':TypeId} {x y:Operand} (hi:ops[i]? =some ⟨some d, .binOp .geq T x y T',ty,ps,af,g⟩) (hx:ev F x=some (.int k p)) (hy:ev F y=some (.int k q)) (hg:mV ops F ⟨some d, .binOp .geq T x y T',ty,ps,af,g⟩) (hb:gW ops nk L i=true) (hs:HSub H Hq) (hd:ao d n=true) (h1:q≤p→dM P ops Q n Hq nk r (i+1) m (L.setIfInBounds i true) ((d, .bool true)::F) H) (h2:p<q→dM P ops Q n Hq nk r (i+1) m (L.setIfInBounds i true) ((d, .bool false)::F) H):dM P ops Q n Hq nk r i (m+1) L F H:=
 qS hi rfl hx hy hg hb hs hd (fun h=>h1 (aAQ h)) fun h=>h2 (aqF h)
theorem aBK {k:IntKind} {p q:Int} {T T':TypeId} {x y:Operand} (hi:ops[i]? =some ⟨some d, .binOp .eql T x y T',ty,ps,af,g⟩) (hx:ev F x=some (.int k p)) (hy:ev F y=some (.int k q)) (hg:mV ops F ⟨some d, .binOp .eql T x y T',ty,ps,af,g⟩) (hb:gW ops nk L i=true) (hs:HSub H Hq) (hd:ao d n=true) (h1:p=q→dM P ops Q n Hq nk r (i+1) m (L.setIfInBounds i true) ((d, .bool true)::F) H) (h2:p≠q→dM P ops Q n Hq nk r (i+1) m (L.setIfInBounds i true) ((d, .bool false)::F) H):dM P ops Q n Hq nk r i (m+1) L F H:=
 qS hi rfl hx hy hg hb hs hd (fun h=>h1 (aAL h)) fun h=>h2 (aqA h)
theorem aBL {k:IntKind} {p q:Int} {T T':TypeId} {x y:Operand} (hi:ops[i]? =some ⟨some d, .binOp .neq T x y T',ty,ps,af,g⟩) (hx:ev F x=some (.int k p)) (hy:ev F y=some (.int k q)) (hg:mV ops F ⟨some d, .binOp .neq T x y T',ty,ps,af,g⟩) (hb:gW ops nk L i=true) (hs:HSub H Hq) (hd:ao d n=true) (h1:p≠q→dM P ops Q n Hq nk r (i+1) m (L.setIfInBounds i true) ((d, .bool true)::F) H) (h2:p=q→dM P ops Q n Hq nk r (i+1) m (L.setIfInBounds i true) ((d, .bool false)::F) H):dM P ops Q n Hq nk r i (m+1) L F H:=
 qS hi rfl hx hy hg hb hs hd (fun h=>h1 (aAM h)) fun h=>h2 (aqB h)
end
theorem xB {b:UInt8}:kx.wrap (b.toNat:Int)=(b.toNat:Int):=IntWalk.i64_in _ (by have:=b.toNat_lt;omega)
theorem xC {b:UInt8}:jz.wrap (b.toNat:Int)=(b.toNat:Int):=IntWalk.u64_in _ (by have:=b.toNat_lt;omega)
theorem xD {b:UInt8}:j0.wrap (b.toNat:Int)=(b.toNat:Int):=IntWalk.u32_in _ (by have:=b.toNat_lt;omega)
theorem qs3 {P:Program} {n:Nat} {o:Oper} {F:eE} {H:List Ent} {v:Value} (h:Qt P n o F H v:=by (first|exact aTM rfl rfl rfl (by (first|rfl|assumption|omega)) (by first|assumption|rfl))):Qt P n o F H v:=h
theorem qs4 {P:Program} {n:Nat} {o:Oper} {F:eE} {H:List Ent} {v:Value} (h:Qt P n o F H v:=by (first|exact aTL rfl rfl rfl (by (first|omega|(simp only[List.length_append,List.length_cons,List.length_nil,List.length_take,List.length_drop,List.length_map];omega)))|exact aBA rfl rfl rfl (by (first|exact xB|exact xC|exact xD|exact tC (by omega)|exact QN (by omega)|exact YG (by omega)|exact QO (by omega)|exact QP (by omega)|exact QQ|exact EL|exact EM))|exact aBB rfl rfl rfl (by (first|exact xB|exact xC|exact xD|exact tC (by omega)|exact QN (by omega)|exact YG (by omega)|exact QO (by omega)|exact QP (by omega)|exact QQ|exact EL|exact EM))|exact aBC rfl rfl rfl (by (first|exact xB|exact xC|exact xD|exact tC (by omega)|exact QN (by omega)|exact YG (by omega)|exact QO (by omega)|exact QP (by omega)|exact QQ|exact EL|exact EM))|exact aPD rfl rfl rfl (by rfl)|exact aBD rfl rfl rfl (by rfl) (by (first|exact xB|exact xC|exact xD|exact tC (by omega)|exact QN (by omega)|exact YG (by omega)|exact QO (by omega)|exact QP (by omega)|exact QQ|exact EL|exact EM))|exact aTN rfl rfl rfl (by omega)|exact aTO rfl rfl rfl (by omega)|exact aQG rfl rfl rfl rfl (by first|assumption|rfl)|exact aPZ rfl rfl rfl (by assumption)|exact aKF rfl rfl rfl (by assumption)|exact aQD rfl rfl rfl (by kernel_rfl) (by first|assumption|rfl)|exact aQE rfl rfl rfl (by kernel_rfl) (by first|assumption|rfl))):Qt P n o F H v:=h
theorem qs6 {P:Program} {n:Nat} {o:Oper} {F:eE} {H:List Ent} {v:Value} (h:Qt P n o F H v:=by (first|exact aPY rfl rfl)):Qt P n o F H v:=h
theorem aTQ {P:Program} {n:Nat} {o:Oper} {F:eE} {H:List Ent} {v:Value} (h:Qt P n o F H v:=by (first|exact aQF rfl rfl (by (first|exact xB|exact xC|exact xD|exact tC (by omega)|exact QN (by omega)|exact YG (by omega)|exact QO (by omega)|exact QP (by omega)|exact QQ|exact EL|exact EM))|exact atW rfl rfl (by exact aU)|exact MP rfl rfl (by exact aU) (by (repeat (first|exact U8s.nil|apply U8s.cons))) (by first|assumption|rfl))):Qt P n o F H v:=h
theorem aTR {P:Program} {n:Nat} {o:Oper} {F:eE} {H:List Ent} {v:Value} (h:Qt P n o F H v:=by (first|exact aQA rfl rfl rfl rfl (by (first|rfl|assumption|omega)) (by (first|rfl|assumption|omega)) (by (first|omega|(simp only[List.length_append,List.length_cons,List.length_nil,List.length_take,List.length_drop,List.length_map];omega))) (by (first|omega|(simp only[List.length_append,List.length_cons,List.length_nil,List.length_take,List.length_drop,List.length_map];omega))) (by first|assumption|rfl)|exact aQB rfl rfl rfl (by (first|rfl|assumption|omega)) (by (first|omega|(simp only[List.length_append,List.length_cons,List.length_nil,List.length_take,List.length_drop,List.length_map];omega))) (by first|assumption|rfl)|exact aQC rfl rfl rfl (by (first|rfl|assumption|omega)) (by (first|omega|(simp only[List.length_append,List.length_cons,List.length_nil,List.length_take,List.length_drop,List.length_map];omega))) (by first|assumption|rfl))):Qt P n o F H v:=h
end sl
namespace sl
open Go.RowKit bO
section
variable {P:Program} {n:Nat} {F:eE} {H R:List Ent} {o:Oper} {x y z:Operand} {v u z':Value} {T S:TypeId}
theorem alY {b i sz by':Nat} {cs vs:List Value} {t:TypeId} [ht:Ty P T true sz by' z'] (ho:o.op= .load T x) (hx:ev F x=some (aH b i)) (p:bQ (box b cs t) H R) (zy:(cs.drop i).take sz=vs) (hl:vs.length=sz):Qt P n o F H (.agg vs.toArray):=vG ho hx p zy hl (tQ vs)
end
section
variable {P:Program} {ops:Array Oper} {Q:fW} {n:Nat} {Hq:List Ent} {nk:List Nat} {r i m:Nat} {L:Array Bool} {F:eE} {H:List Ent} {rest:List Oper} {d:Nat} {op:Op} {ty:TypeId} {ps:String} {af:Array Edge} {j t:Nat} {b:Bool}
theorem BN {o:Oper} {a:Act} (ha:Ok F n a) (hg:o.guard=some (j,b)) (hs:pX ops j=some t) (hv:look F t=some undef):bc o (yielded ops a.tmps)=false:=by
 have h1:ops[j]?.bind (·.dst)=some t:=hs;have h2:yielded ops a.tmps j=none:=by
  unfold yielded;rw[h1];simp [ha.slot t _ hv,undef]
 simp [bc,hg,h2]
theorem YJ (hs:pX ops j=some t) (hv:look F t=some undef) (hd:ao d n=true) (k:cM P ops Q n rest ((d,undef)::F) H):cM P ops Q n (⟨some d,op,ty,ps,af,some (j,b)⟩::rest) F H:=
 fun a w ha hw=>wpList_step fun K' hK=>by
  have h9:=BN (o:=⟨some d,op,ty,ps,af,some (j,b)⟩) ha rfl hs hv;rw[Jf (by rw[h9];decide)];exact hK _ _ (k _ _ (ha.put (d:=some d) hd) hw)
theorem YK (hs:pX ops j=some t) (hv:look F t=some undef) (k:cM P ops Q n rest F H):cM P ops Q n (⟨none,op,ty,ps,af,some (j,b)⟩::rest) F H:=
 fun a w ha hw=>wpList_step fun K' hK=>by
  have h9:=BN (o:=⟨none,op,ty,ps,af,some (j,b)⟩) ha rfl hs hv;rw[Jf (by rw[h9];decide)];exact hK _ _ (k _ _ (ha.put (d:=none) rfl) hw)
theorem auB (hi:ops[i]? =some ⟨some d,op,ty,ps,af,some (j,b)⟩) (zy:pX ops j=some t) (hv:look F t=some undef) (hb:gW ops nk L i=true) (hs:HSub H Hq) (hd:ao d n=true) (h:dM P ops Q n Hq nk r (i+1) m (L.setIfInBounds i true) ((d,undef)::F) H):dM P ops Q n Hq nk r i (m+1) L F H:=
 vI hi hb hs hd (fun a ha=> .inr ⟨BN ha rfl zy hv,rfl⟩) h
end
theorem qs2 {P:Program} {n:Nat} {o:Oper} {F:eE} {H:List Ent} {v:Value} (h:Qt P n o F H v:=by exact alY rfl rfl (by exact aU) (by dsimp only[List.drop,List.take]) (by rfl)):Qt P n o F H v:=h
end sl
namespace sl
open Go.RowKit bO
section
variable {P:Program} {n:Nat} {F:eE} {H R:List Ent} {o:Oper} {x y z:Operand} {v u z':Value} {T S:TypeId}
theorem aPE {t:Nat} {k:IntKind} {i j:Int} (ho:o.op= .call { callee:= .builtin .max,args:= #[x,y],argTypes:= #[t,t] }) (hx:ev F x=some (.int k i)) (hy:ev F y=some (.int k j)):Qt P n o F H (.int k (max i j)):=fun a w ha hw=>by
 simp [execOp,ho,resolve,invoke,builtin,ha.eval hx,ha.eval hy,Builtin.max_,Builtin.max2,OQ]
def aVI (v:Value) (k:Nat):Value:=
 match v with
 | .slice (some a) m c=> .slice (some (a.add k)) (m-k) (c-k)
 |u=>u
theorem aBM {t e by' m c j:Nat} {k:IntKind} {i:Int} {agg:Bool} {ad:Addr} [ht:pD P t e] [hs:Ty P e agg 1 by' z'] (ho:o.op= .slice t x (some y) none none) (hx:ev F x=some (.slice (some ad) m c)) (hy:ev F y=some (.int k i)) (hi:i=(j:Int)) (hj:j<m) (hc:m≤c):Qt P n o F H (.slice (some (ad.add j)) (m-j) (c-j)):=fun a w ha hw=>by
 subst hi;have he:P.elem t=e:=by simp [Program.elem,ht.h]
 have hu:P.underlying t=some (.slice (P.elem t)):=by rw[he];exact ht.h
 have h1:=run_slice_l (P:=P) w t (some ad) m c hu k (j:Int) Z8 Z8;rw[he,eH hs] at h1;have hv:sliced (some ad) ((j:Int)).toNat m c 1= .slice (some (ad.add j)) (m-j) (c-j):=by
  unfold sliced;rw[dc,Jf Z8,gy];rfl
 simp only[aa,hv] at h1;simp only[execOp,ho,ej,eo,ha.eval hx,ha.eval hy,ab,ah,run_sliceAt_slice w t _ _ _ _ hu,h1,aa]
theorem YL {c:Code} {Q:fW} {q:Option Addr} {e m cp:Nat} {xs:List Value} (p:bQ (own (.slice q m cp) e 1 m xs) H R) (hm:0<m) (k: ∀ g,q=some ⟨g,0,none⟩→m≤cp→dG P Q n c F H):dG P Q n c F H:=fun a w ha hw=>by
 have hb:w.ownsRow 0 e 1 (.slice q m cp) m xs:=(hw.perm p.perm).head;rcases hb.2 with⟨h,h0⟩|⟨g,cap,cur,h,_,_,h2,_⟩
 ·omega
 ·cases h;exact k g rfl h2 a w ha hw
theorem afZ {α:Type} {A B:List α} {k m:Nat} (h:k+B.length≤m) (hm:m≤A.length):(A.take k++B++A.drop (k+B.length)).take m=(A.take m).take k++B++(A.take m).drop (k+B.length):=by
 apply ep;intro i;simp only[au,dr,ae,ar,aw]
 repeat' split
 all_goals first|rfl|omega|(congr 1;omega)|skip
theorem EN (l:List UInt8):flat fY l=Lib.byteCells l:=by
 induction l with
 |nil=>rfl
 |cons b l ih=>
  show fY b++flat fY l=_;rw[ih];rfl
theorem MQ {e by' m k:Nat} {agg:Bool} {l xs:List UInt8} {u:Value} {tt:TypeId} (hu:u=aVI v k∨(u=v∧k=0)) [ht:pD P T e] [hs:Ty P e agg 1 by' z'] (ho:o.op= .call { callee:= .builtin .copy,args:= #[x,y],argTypes:= #[T,tt] }) (hx:ev F x=some u) (hy:ev F y=some (.string (str l))) (p:bQ (own v e 1 m (flat fY xs)) H R) (hm:k+l.length≤m) (hk:l.length=0∨k<m):
  cN P n o F H fun r H'=>r= .int .i64 (l.length:Int)∧H'=own v e 1 m (flat fY (xs.take k++l++xs.drop (k+l.length)))::R:=fun Q a w next ha hw hn=>by
 have zx:=hw.perm p.perm;have hb:w.ownsRow 0 e 1 v m (flat fY xs):=zx.head;obtain⟨it,dt,e1,_,_,e2,_,_⟩:=hs.info;have hsz:(P.info? e).map (·.size)=some 1:=by rw[e1];simp [e2]
 have zw:((P.info? e).map (·.size)).isSome=true:=by rw[hsz];rfl
 have zy:(str l).size=l.length:=cZ l;rcases hb.2 with⟨hv,h0⟩|⟨g,cap,cur,hv,zq,hg,h2,h3,h4,h5⟩
 ·have zv:l=[]:=bp Z8;have zn:k=0:=Z8
  have zu:u= .slice none 0 0:=by
   rcases hu with h|⟨h,_⟩
   ·rw[h,hv];rfl
   ·rw[h,hv]
  have hr:=Lib.run_copy_empty_string (P:=P) w T tt o.type e none 0 0 (str l) ht.h zw (by rw[zy,zv];rfl);unfold bj;simp only[execOp,ho,resolve,invoke,builtin,fc,gd,gu,ha.eval hx,ha.eval hy,zu,ab,ah,aa,hr,bf];refine hn _ _ _ ⟨by rw[zv];rfl,rfl⟩ ?_;rw[zv,zn];simpa using zx
 ·have zu:u= .slice (some ⟨g,k,none⟩) (m-k) (cap-k):=by
   rcases hu with h|⟨h,h9⟩
   ·rw[h,hv];show jw (some ((⟨g,0,none⟩:Addr).add k)) (m-k) (cap-k)=_;rw[show (⟨g,0,none⟩:Addr).add k=⟨g,k,none⟩ from by unfold Addr.add;split<;>simp_all]
   ·rw[h,hv,h9];rfl
  have zr:cur.toList.length=cap:=by simpa using h4
  have hr:=Lib.run_copy_row_string (P:=P) w T tt o.type e g k (m-k) (cap-k) (str l) cur e ht.h hsz hg (by rw[zy];omega) (by rw[zy];simp only[fg] at zr;omega);rw[zy] at hr;unfold bj;simp only[execOp,ho,resolve,invoke,builtin,fc,gd,gu,ha.eval hx,ha.eval hy,zu,ab,ah,aa,hr,bf];have zt:(Lib.byteCells l).length=l.length:=Lib.byteCells_length l;have hxl:xs.length=m:=by
   have h9:=hb.1;rw[EN,Lib.byteCells_length] at h9;omega
  have key:flat fY (xs.take k++l++xs.drop (k+l.length))=(flat fY xs).take k++Lib.byteCells l++(flat fY xs).drop (k+l.length):=by
   simp only[EN,Lib.byteCells,List.map_append,jj,List.map_drop]
  refine hn _ _ _ ⟨rfl,rfl⟩ (aG.qO zx rfl (qF w g _ _ (by rw[hv];rfl)) ⟨?_, .inr ⟨g,cap,_,hv,zq,setRow_heap w g _ _ e _ hg,h2,h3, ?_, ?_⟩⟩ fun k hk=> .inl hk)
  ·rw[EN,Lib.byteCells_length];simp only[ae,ar,bq];omega
  ·simp only[dq,ae,ar,bq,zt];simp only[fg] at zr ⊢;omega
  ·rw[key, ←h5,gy];have:=afZ (A:=cur.toList) (B:=Lib.byteCells l) (k:=k) (m:=m) (by rw[zt];omega) Z8;rw[zt] at this;exact this
end
end sl
namespace sl
open Go.RowKit bO
structure Tk (Q:Prop):Prop where
 go:Q
def aBN (op:Op):Bool:=match dX op with
 |1=>true
 |2=>true
 |3=>true
 |4=>true
 |5=>true
 |6=>true
 |11=>true
 |12=>true
 |_=>false
section
variable {P:Program} {ops:Array Oper} {Q:fW} {n:Nat} {rest:List Oper} {d:Nat} {op:Op} {ty:TypeId} {ps:String} {af:Array Edge} {g:Option (Nat×Bool)} {v:Value} {F:eE} {H Hq:List Ent} {nk:List Nat} {r i m:Nat} {L:Array Bool}
theorem aBO (hk:aBN op=true) (hg:mV ops F ⟨some d,op,ty,ps,af,g⟩) (hd:ao d n=true) (h:Qt P n ⟨some d,op,ty,ps,af,g⟩ F H v) (k:cM P ops Q n rest ((d,v)::F) H):cM P ops Q n (⟨some d,op,ty,ps,af,g⟩::rest) F H:=eK hg hd h k
theorem alZ (hi:ops[i]? =some ⟨some d,op,ty,ps,af,g⟩) (hk:aBN op=true) (hg:mV ops F ⟨some d,op,ty,ps,af,g⟩) (hb:gW ops nk L i=true) (hs:HSub H Hq) (hd:ao d n=true) (hq:Qt P n ⟨some d,op,ty,ps,af,g⟩ F Hq v) (h:dM P ops Q n Hq nk r (i+1) m (L.setIfInBounds i true) ((d,v)::F) H):dM P ops Q n Hq nk r i (m+1) L F H:=bN (dX op) hi rfl hg hb hs hd hq h
theorem auC (hi:ops[i]? =some ⟨some d,op,ty,ps,af,g⟩) (hk:aBN op=true) (hr:ax .any ops L=[i]) (hg:mV ops F ⟨some d,op,ty,ps,af,g⟩) (hd:ao d n=true) (hq:Qt P n ⟨some d,op,ty,ps,af,g⟩ F H v) (hs:HSub H Hq) (h:dM P ops Q n Hq nk r (i+1) m (L.setIfInBounds i true) ((d,v)::F) H):dM P ops Q n Hq nk r i (m+1) L F H:=auA (dX op) hi rfl hr hg hd hq hs h
theorem aqK {l:List Oper} (h:cM P ops Q n l F H):cM P ops Q n l F H:=h
theorem aPF {c:Code} (h:dG P Q n c F H):dG P Q n c F H:=h
theorem aPG {e:Exit} (h:dL Q e n F H):dL Q e n F H:=h
theorem aBP (h:dM P ops Q n Hq nk r i m L F H):dM P ops Q n Hq nk r i m L F H:=h
end
theorem Wq1 {P:Program} {n:Nat} {o:Oper} {F:eE} {H:List Ent} {v:Value} (hk:dX o.op=1:=by exact rfl) (h:Qt P n o F H v:=by exact qg1):Qt P n o F H v:=h
theorem Wq2 {P:Program} {n:Nat} {o:Oper} {F:eE} {H:List Ent} {v:Value} (hk:dX o.op=2:=by exact rfl) (h:Qt P n o F H v:=by first|exact qg2|exact qs2):Qt P n o F H v:=h
theorem Wq3 {P:Program} {n:Nat} {o:Oper} {F:eE} {H:List Ent} {v:Value} (hk:dX o.op=3:=by exact rfl) (h:Qt P n o F H v:=by first|exact qg3|exact qs3):Qt P n o F H v:=h
theorem Wq4 {P:Program} {n:Nat} {o:Oper} {F:eE} {H:List Ent} {v:Value} (hk:dX o.op=4:=by exact rfl) (h:Qt P n o F H v:=by first|exact qg4|exact qs4):Qt P n o F H v:=h
theorem Wq5 {P:Program} {n:Nat} {o:Oper} {F:eE} {H:List Ent} {v:Value} (hk:dX o.op=5:=by exact rfl) (h:Qt P n o F H v:=by exact qg5):Qt P n o F H v:=h
theorem Wq6 {P:Program} {n:Nat} {o:Oper} {F:eE} {H:List Ent} {v:Value} (hk:dX o.op=6:=by exact rfl) (h:Qt P n o F H v:=by first|exact qs6|exact qg6|exact aPE rfl rfl rfl|exact MS rfl rfl (by omega)|exact EP rfl rfl|exact wO rfl rfl rfl|exact MM rfl rfl):Qt P n o F H v:=h
theorem aQH {P:Program} {n:Nat} {o:Oper} {F:eE} {H:List Ent} {v:Value} (hk:dX o.op=11:=by exact rfl) (h:Qt P n o F H v:=by exact aTQ):Qt P n o F H v:=h
theorem aQI {P:Program} {n:Nat} {o:Oper} {F:eE} {H:List Ent} {v:Value} (hk:dX o.op=12:=by exact rfl) (h:Qt P n o F H v:=by first|exact aTR|exact aBM rfl rfl rfl rfl (by omega) (by omega)|exact sN rfl rfl rfl rfl (by omega)):Qt P n o F H v:=h
theorem Vq1 {P:Program} {n:Nat} {o:Oper} {F:eE} {H:List Ent} {v:Value} (hk:dX o.op=1:=by exact rfl) (h:Qt P n o F H v:=by exact qg1):Qt P n o F H v:=h
theorem Vq2 {P:Program} {n:Nat} {o:Oper} {F:eE} {H:List Ent} {v:Value} (hk:dX o.op=2:=by exact rfl) (h:Qt P n o F H v:=by exact qg2):Qt P n o F H v:=h
theorem Vq3 {P:Program} {n:Nat} {o:Oper} {F:eE} {H:List Ent} {v:Value} (hk:dX o.op=3:=by exact rfl) (h:Qt P n o F H v:=by exact qg3):Qt P n o F H v:=h
theorem Vq4 {P:Program} {n:Nat} {o:Oper} {F:eE} {H:List Ent} {v:Value} (hk:dX o.op=4:=by exact rfl) (h:Qt P n o F H v:=by exact qg4):Qt P n o F H v:=h
theorem Vq5 {P:Program} {n:Nat} {o:Oper} {F:eE} {H:List Ent} {v:Value} (hk:dX o.op=5:=by exact rfl) (h:Qt P n o F H v:=by exact qg5):Qt P n o F H v:=h
theorem Vq6 {P:Program} {n:Nat} {o:Oper} {F:eE} {H:List Ent} {v:Value} (hk:dX o.op=6:=by exact rfl) (h:Qt P n o F H v:=by exact qg6):Qt P n o F H v:=h
theorem Wa {P Q:Prop} (q:Q) (h:Tk Q→P:=by intro h;(first|(refine aqK ?_;(first|(apply aBO;(focus exact rfl);(focus exact wt);(focus exact rfl);(focus (first|exact Wq1|exact Wq2|exact Wq3|exact Wq4|exact Wq5|exact Wq6|exact aQH|exact aQI|fail)))|refine apV ?_|(apply OV 9;(focus rfl);(focus exact wt);(focus (exact dR rfl rfl rfl (by exact aU) rfl rfl rfl (by exact atT)));(rintro _ _ ⟨rfl,rfl⟩))|(apply OV 9;(focus rfl);(focus exact wt);(focus (exact cR rfl rfl rfl rfl (by exact aU) rfl (by exact atQ)));(rintro _ _ ⟨rfl,rfl⟩))|(apply afI;(focus rfl);(focus rfl);(focus rfl))|(apply afJ;(focus rfl);(focus rfl))|(apply YJ;(focus rfl);(focus rfl);(focus rfl))|(apply YK;(focus rfl);(focus rfl))|fail))|(refine aPG ?_;(first|refine afD ?_|refine wT ?_|refine AM rfl ?_|refine AL ?_|refine AK ?_|refine DY ?_|refine XV ?_|refine YM ?_|refine AQ ?_|refine xE ?_|fail))|(refine aPF ?_;(first|refine QF ?_|(apply QD;(focus rfl))|(apply QE;(focus rfl))|refine XU ?_|refine afB ?_|refine apU ?_|refine afA ?_|refine YN ?_|refine YO ?_|fail))|fail);exact h.go):P:=h ⟨q⟩
theorem Wo {P Q:Prop} (q:Q) (h:Tk Q→P:=by intro h;(first|(refine aqK ?_;(first|(apply aBO;(focus exact rfl);(focus exact wt);(focus exact rfl);(focus (first|exact Vq1|exact Vq2|exact Vq3|exact Vq4|exact Vq5|exact Vq6|fail)))|refine apV ?_|(apply OV 9;(focus rfl);(focus exact wt);(focus (exact dR rfl rfl rfl (by exact aU) rfl rfl rfl (by exact atT)));(rintro _ _ ⟨rfl,rfl⟩))|(apply OV 9;(focus rfl);(focus exact wt);(focus (exact cR rfl rfl rfl rfl (by exact aU) rfl (by exact atQ)));(rintro _ _ ⟨rfl,rfl⟩))|(apply afI;(focus rfl);(focus rfl);(focus rfl))|(apply afJ;(focus rfl);(focus rfl))|(apply YJ;(focus rfl);(focus rfl);(focus rfl))|(apply YK;(focus rfl);(focus rfl))|fail))|(refine aPG ?_;(first|refine afD ?_|refine wT ?_|refine AM rfl ?_|refine AL ?_|refine AK ?_|refine DY ?_|refine XV ?_|refine YM ?_|refine AQ ?_|refine xE ?_|fail))|(refine aPF ?_;(first|refine QF ?_|(apply QD;(focus rfl))|(apply QE;(focus rfl))|refine XU ?_|refine afB ?_|refine apU ?_|refine afA ?_|refine YN ?_|refine YO ?_|fail))|fail);exact h.go):P:=h ⟨q⟩
theorem Wb {P Q:Prop} (q:Q) (h:Tk Q→P:=by intro h;(first|(refine aqK ?_;(first|(apply yV 8;(focus rfl);(focus exact wt);(focus rfl);(focus (exact sJ rfl rfl));(rintro _ _ ⟨b,rfl,rfl⟩);revert b)|(apply yV 8;(focus rfl);(focus exact wt);(focus rfl);(focus (exact sK rfl rfl rfl));(rintro _ _ ⟨b,rfl,rfl⟩);revert b)|(apply yV 8;(focus rfl);(focus exact wt);(focus rfl);(focus (exact gV rfl));(rintro _ _ ⟨b,rfl,rfl⟩);revert b)|fail))|(refine aBP ?_;(first|(apply jH 8;(focus rfl);(focus rfl);(focus (decide +kernel));(focus exact wt);(focus rfl);(focus (exact sJ rfl rfl));(rintro _ _ ⟨b,rfl,rfl⟩;refine⟨(by first|exact fun h=>absurd h (by decide)|exact fun _=>kA), ?_⟩);revert b)|(apply jH 8;(focus rfl);(focus rfl);(focus (decide +kernel));(focus exact wt);(focus rfl);(focus (exact sK rfl rfl rfl));(rintro _ _ ⟨b,rfl,rfl⟩;refine⟨(by first|exact fun h=>absurd h (by decide)|exact fun _=>kA), ?_⟩);revert b)|(apply jH 8;(focus rfl);(focus rfl);(focus (decide +kernel));(focus exact wt);(focus rfl);(focus (exact gV rfl));(rintro _ _ ⟨b,rfl,rfl⟩;refine⟨(by first|exact fun h=>absurd h (by decide)|exact fun _=>kA), ?_⟩);revert b)|fail))|fail);exact h.go):P:=h ⟨q⟩
theorem Wq {P Q:Prop} (q:Q) (h:Tk Q→P:=by intro h;(first|(apply yV 10;(focus rfl);(focus exact wt);(focus rfl);(focus (exact aT rfl rfl rfl (by exact atU) rfl rfl (by decide) rfl));(rintro _ _ ⟨q,rfl,rfl⟩);revert q)|(apply jH 10;(focus rfl);(focus rfl);(focus (decide +kernel));(focus exact wt);(focus rfl);(focus (exact aT rfl rfl rfl (by exact atU) rfl rfl (by decide) rfl));(rintro _ _ ⟨q,rfl,rfl⟩;refine⟨(by first|exact fun h=>absurd h (by decide)|exact fun _=>kA), ?_⟩;(try refine YI kA ?_));revert q)|fail);exact h.go):P:=h ⟨q⟩
theorem We {P Q:Prop} (q:Q) (h:Tk Q→P:=by intro h;(first|refine jU ?_|(apply afY;(focus kernel_rfl);(focus (simp only[List.length_cons,List.length_nil,Nat.reduceAdd];rfl)))|fail);exact h.go):P:=h ⟨q⟩
theorem Ws {P Q R:Prop} (q:Q) (r:R) (h:Tk Q→Tk R→P:=by intro h1 h2;(first|(refine aqK ?_;(first|((first|(apply aJT;(rotate_left 2);(focus rfl))|(apply aJU;(rotate_left 2);(focus rfl))|(apply aJV;(rotate_left 2);(focus rfl))|(apply aJW;(rotate_left 2);(focus rfl))|(apply aJX;(rotate_left 2);(focus rfl))|(apply aJY;(rotate_left 2);(focus rfl))|(apply run_seq;(rotate_left 2);(focus rfl))|(apply aAV;(rotate_left 2);(focus rfl)));(focus rfl);(focus rfl);(rotate_right 2);(focus exact wt);(focus rfl);(all_goals (intro h;dsimp only[qO];revert h)))|fail))|(refine aBP ?_;(first|(apply aBG;(focus rfl);(focus rfl);(focus rfl);(focus exact wt);(focus (decide +kernel));(focus exact kA);(focus rfl))|(apply aBH;(focus rfl);(focus rfl);(focus rfl);(focus exact wt);(focus (decide +kernel));(focus exact kA);(focus rfl))|(apply aBI;(focus rfl);(focus rfl);(focus rfl);(focus exact wt);(focus (decide +kernel));(focus exact kA);(focus rfl))|(apply aBJ;(focus rfl);(focus rfl);(focus rfl);(focus exact wt);(focus (decide +kernel));(focus exact kA);(focus rfl))|(apply aBK;(focus rfl);(focus rfl);(focus rfl);(focus exact wt);(focus (decide +kernel));(focus exact kA);(focus rfl))|(apply aBL;(focus rfl);(focus rfl);(focus rfl);(focus exact wt);(focus (decide +kernel));(focus exact kA);(focus rfl))|fail))|fail);(focus exact h1.go);exact h2.go):P:=h ⟨q⟩ ⟨r⟩
theorem Wk {P Q:Prop} (q:Q) (h:Tk Q→P:=by intro h;(first|(refine aBP ?_;(first|(apply atX;(focus exact rfl))|(apply aBE;(focus (decide +kernel)))|(apply alZ;(focus exact rfl);(focus exact rfl);(focus exact wt);(focus (decide +kernel));(focus exact kA);(focus exact rfl);(focus (first|exact Wq1|exact Wq2|exact Wq3|exact Wq4|exact Wq5|exact Wq6|exact aQH|exact aQI|fail)))|(apply auC;(focus exact rfl);(focus exact rfl);(focus (decide +kernel));(focus exact wt);(focus exact rfl);(focus (first|exact Wq1|exact Wq2|exact Wq3|exact Wq4|exact Wq5|exact Wq6|exact aQH|exact aQI|fail));(focus exact kA))|(apply aBF;(focus rfl);(focus rfl);(focus rfl);(focus (decide +kernel));(focus exact kA);(focus rfl))|(apply auB;(focus rfl);(focus rfl);(focus rfl);(focus (decide +kernel));(focus exact kA);(focus rfl))|(apply JE 9;(focus rfl);(focus rfl);(focus (decide +kernel));(focus exact wt);(focus (exact dR rfl rfl rfl (by exact aU) rfl rfl rfl (by exact atT)));(rintro _ _ ⟨rfl,rfl⟩;refine⟨(by first|exact fun h=>absurd h (by decide)|exact fun _=>kA), ?_⟩))|(apply JE 9;(focus rfl);(focus rfl);(focus (decide +kernel));(focus exact wt);(focus (exact cR rfl rfl rfl rfl (by exact aU) rfl (by exact atQ)));(rintro _ _ ⟨rfl,rfl⟩;refine⟨(by first|exact fun h=>absurd h (by decide)|exact fun _=>kA), ?_⟩))|fail))|fail);exact h.go):P:=h ⟨q⟩
theorem Wz {P Q:Prop} (q:Q) (h:Tk Q→P:=by intro h;(first|(apply atY;(focus rfl))|(apply atZ;(focus rfl))|fail);exact h.go):P:=h ⟨q⟩
theorem Wi {P Q:Prop} (q:Q) (h:Tk Q→P:=by intro h;(first|(apply BM 1 _;(focus rfl);(focus exact wt);(focus rfl);(focus (exact sJ rfl rfl));(rintro _ _ ⟨b,rfl,rfl⟩;refine⟨(by first|exact fun h=>absurd h (by decide)|exact fun _=>kA), ?_⟩);revert b)|(apply BM 1 _;(focus rfl);(focus exact wt);(focus rfl);(focus (exact sK rfl rfl rfl));(rintro _ _ ⟨b,rfl,rfl⟩;refine⟨(by first|exact fun h=>absurd h (by decide)|exact fun _=>kA), ?_⟩);revert b)|(apply BM 1 _;(focus rfl);(focus exact wt);(focus rfl);(focus (exact gV rfl));(rintro _ _ ⟨b,rfl,rfl⟩;refine⟨(by first|exact fun h=>absurd h (by decide)|exact fun _=>kA), ?_⟩);revert b)|fail);exact h.go):P:=h ⟨q⟩
theorem Wj {P Q:Prop} (q:Q) (h:Tk Q→P:=by intro h;(first|(apply BM 1 _;(focus rfl);(focus exact wt);(focus rfl);(focus (exact aT rfl rfl rfl (by exact atU) rfl rfl (by decide) rfl));(rintro _ _ ⟨q,rfl,rfl⟩;refine⟨(by first|exact fun h=>absurd h (by decide)|exact fun _=>kA), ?_⟩);(try refine YI kA ?_);revert q)|fail);exact h.go):P:=h ⟨q⟩
theorem Wc {Z:Program} {f:FuncId} {az:List Value} {H:List Ent} {R:Value→List Ent→Prop} {P Q:Prop} (c:Ct Z f az H R) (q:Q) (h:Ct Z f az H R→Tk Q→P:=by intro c h;(first|(apply yV 7;(focus rfl);(focus exact wt);(focus rfl);(focus (exact sM (by rfl) c (by rfl) wY));(rintro _ _ ⟨rfl,rfl⟩))|(apply jH 7;(focus rfl);(focus rfl);(focus (decide +kernel));(focus exact wt);(focus rfl);(focus (exact sM (by rfl) c (by rfl) wY));(rintro _ _ ⟨rfl,rfl⟩;refine⟨(by first|exact fun h=>absurd h (by decide)|exact fun _=>kA), ?_⟩))|(apply BM 1 _;(focus rfl);(focus exact wt);(focus rfl);(focus (exact sM (by rfl) c (by rfl) wY));(rintro _ _ ⟨rfl,rfl⟩;refine⟨(by first|exact fun h=>absurd h (by decide)|exact fun _=>kA), ?_⟩))|fail);exact h.go):P:=h c ⟨q⟩
theorem Wg {Z:Program} {f:FuncId} {az:List Value} {H:List Ent} {R:Value→List Ent→Prop} {P Q:Prop} (c:Ct Z f az H R) (q:Q) (h:Ct Z f az H R→Tk Q→P:=by intro c h;(first|(apply yV 7;(focus rfl);(focus exact wt);(focus rfl);(focus (exact eF (by rfl) (by rfl) (by rfl) c (by rfl) wY));(rintro _ _ ⟨rfl,rfl⟩))|(apply jH 7;(focus rfl);(focus rfl);(focus (decide +kernel));(focus exact wt);(focus rfl);(focus (exact eF (by rfl) (by rfl) (by rfl) c (by rfl) wY));(rintro _ _ ⟨rfl,rfl⟩;refine⟨(by first|exact fun h=>absurd h (by decide)|exact fun _=>kA), ?_⟩))|fail);exact h.go):P:=h c ⟨q⟩
theorem We1 {P Q:Prop} (q:Q) (h:Tk Q→P:=by intro h;(first|(apply oI 2;(focus rfl);(focus exact wt);(focus rfl);(focus (exact YP rfl rfl (by exact aU) (by first|assumption|exact aTS .. |exact aTT (by omega)|exact aTU (by omega)|exact aTV (by omega)))))|(apply oI 3;(focus rfl);(focus exact wt);(focus rfl);(focus (exact xF rfl rfl rfl (by first|assumption|rfl|omega) (by omega) (by rfl))))|(apply oI 4;(focus rfl);(focus exact wt);(focus rfl);(focus (first|exact aBQ rfl rfl rfl (by assumption) (by omega) (by assumption)|exact aBR rfl rfl rfl (by assumption) (by omega) (by assumption))))|(apply bN 2;(focus rfl);(focus rfl);(focus exact wt);(focus (decide +kernel));(focus exact kA);(focus rfl);(focus (exact YP rfl rfl (by exact aU) (by first|assumption|exact aTS .. |exact aTT (by omega)|exact aTU (by omega)|exact aTV (by omega)))))|(apply bN 3;(focus rfl);(focus rfl);(focus exact wt);(focus (decide +kernel));(focus exact kA);(focus rfl);(focus (exact xF rfl rfl rfl (by first|assumption|rfl|omega) (by omega) (by rfl))))|(apply bN 4;(focus rfl);(focus rfl);(focus exact wt);(focus (decide +kernel));(focus exact kA);(focus rfl);(focus (first|exact aBQ rfl rfl rfl (by assumption) (by omega) (by assumption)|exact aBR rfl rfl rfl (by assumption) (by omega) (by assumption))))|fail);exact h.go):P:=h ⟨q⟩
theorem Da {P Q:Prop} (q:Q) (h:Tk Q→P:=by intro h;dsimp only[List.cons_append,List.nil_append];exact h.go):P:=h ⟨q⟩
theorem Te {A B:Prop} (b:B) (a:A:=by first|exact fun h=>absurd h (by decide)|exact fun _=>kA):A∧B:=⟨a,b⟩
theorem Tf {A B:Prop} (b:B) (a:A:=by first|exact fun h=>absurd h (by decide)|exact fun _=>HSub.trans (HSub.BJ (List.sublist_append_right _ _)) kA|exact fun _=>kA):A∧B:=⟨a,b⟩
section
variable {P:Program} {fn:Func} {R:Value→List Ent→Prop} {Fr:List Ent} {n:Nat} {F:eE} {H H' H1:List Ent} {rs:List ResultVar} {v:Value} {Q:fW} {ops:Array Oper} {rest:List Oper}
theorem Ea (hrs:fn.results=rs.toArray:=by exact rfl) (hr:DZ P F H rs v:=by exact JD) (x:R v H') (hH:HSub H (H'++Fr):=by exact MN):dL (Fin P fn R Fr) .ret n F H:=qE hrs hr H' x hH
theorem Eb (hrs:fn.results=rs.toArray:=by exact rfl) (hr:DZ P F H rs v:=by exact JD) (x:R v H') (hH:HSub H (H'++Fr):=by exact MN):dL (Fin P fn R Fr) .normal n F H:=afH hrs hr H' x hH
theorem Ec (hrs:fn.results=rs.toArray:=by exact rfl) (hr:DZ P F H rs v:=by exact JD) (x:R v H') (hH:HSub H (H'++Fr):=by exact (HSub.trans (HSub.BJ (by repeat (first|exact List.Sublist.refl _|apply List.Sublist.cons))) (cA List.perm_append_comm))):dL (Fin P fn R Fr) .ret n F H:=qE hrs hr H' x hH
theorem Ed (hrs:fn.results=rs.toArray:=by exact rfl) (hr:DZ P F H rs v:=by exact JD) (x:R v H') (hH:HSub H (H'++Fr):=by exact (HSub.BJ (List.Sublist.append_left (by repeat (first|exact List.Sublist.refl _|apply List.Sublist.cons)) _))):dL (Fin P fn R Fr) .ret n F H:=qE hrs hr H' x hH
theorem Ee {σ:Type} {I:σ→Prop} {Fi:σ→eE} {Hi:σ→List Ent} {μ:σ→Nat} {k:Nat} (y:σ) (hI:I y) (hμ:μ y<k) (hF:kP F (Fi y):=by exact kP.of (by (try dsimp only);exact fsa)) (hH:HSub H (Hi y):=by (try dsimp only);exact MN):dL (Exit.then (afE n I Fi Hi μ k) Q) .normal n F H:=atJ y hI hF hH hμ
variable {d:Nat} {op:Op} {ty:TypeId} {ps:String} {af:Array Edge} {g:Option (Nat×Bool)} {f:FuncId} {args:List Operand} {ts:Array TypeId} {vs:List Value} {C S:List Ent} {Rs:Value→List Ent→Prop}
theorem Ca [hc:cG P f] [hX:Xcl Rs] (c:Ct P f vs C Rs) (k: ∀ v H',(∃ H1,Rs v H1∧H'=H1++S)→cM P ops Q n rest ((d,v)::F) H') (ho:op= .call { callee:= .value (.func f),args:=args.toArray,argTypes:=ts }:=by exact rfl) (hv:WZ F args=some vs:=by exact rfl) (p:Lp C H S:=by exact wY) (hg:mV ops F ⟨some d,op,ty,ps,af,g⟩:=by exact wt) (hd:Nat.blt d n=true:=by exact rfl):cM P ops Q n (⟨some d,op,ty,ps,af,g⟩::rest) F H:=aL hg hd (bG ho c hv p) k
theorem Cb [hc:cG P f] (c:Ct P f vs C Rs) (k: ∀ v H',(∃ H1,Rs v H1∧H'=H1++S)→cM P ops Q n rest ((d,v)::F) H') (ho:op= .call { callee:= .value (.func f),args:=args.toArray,argTypes:=ts }:=by exact rfl) (hv:WZ F args=some vs:=by exact rfl) (p:kT C H S:=by exact pca) (hg:mV ops F ⟨some d,op,ty,ps,af,g⟩:=by exact wt) (hd:Nat.blt d n=true:=by exact rfl):cM P ops Q n (⟨some d,op,ty,ps,af,g⟩::rest) F H:=aL hg hd (afQ ho c hv p) k
variable {Hq:List Ent} {nk:List Nat} {r m j:Nat} {L:Array Bool} {K:Value→List Ent→Prop}
theorem Cc (i:Nat) [hc:cG P f] [hX:Xcl Rs] (c:Ct P f vs C Rs) (k: ∀ v H',(∃ H1,Rs v H1∧H'=H1++S)→(nk.contains i=false→HSub H' Hq)∧dM P ops Q n Hq nk r (i+1) m (L.setIfInBounds i true) ((d,v)::F) H') (hi:ops[i]? =some ⟨some d,op,ty,ps,af,g⟩:=by exact rfl) (ho:op= .call { callee:= .value (.func f),args:=args.toArray,argTypes:=ts }:=by exact rfl) (hr:Region.ready .any ops L=[i]:=by kernel_rfl) (hg:mV ops F ⟨some d,op,ty,ps,af,g⟩:=by exact wt) (hd:Nat.blt d n=true:=by exact rfl) (hv:WZ F args=some vs:=by exact rfl) (p:Lp C H S:=by exact wY):dM P ops Q n Hq nk r j (m+1) L F H:=aB i (jH (dX op) hi rfl hr hg hd (bG ho c hv p) k)
theorem Cd (i:Nat) [hc:cG P f] [hX:Xcl Rs] (c:Ct P f vs C Rs) (k: ∀ v H',(∃ H1,Rs v H1∧H'=H1++S)→(nk.contains i=false→HSub H' Hq)∧dM P ops Q n Hq nk 1 0 m (L.setIfInBounds i true) ((d,v)::F) H') (hi:ops[i]? =some ⟨some d,op,ty,ps,af,g⟩:=by exact rfl) (ho:op= .call { callee:= .value (.func f),args:=args.toArray,argTypes:=ts }:=by exact rfl) (hg:mV ops F ⟨some d,op,ty,ps,af,g⟩:=by exact wt) (hd:Nat.blt d n=true:=by exact rfl) (hv:WZ F args=some vs:=by exact rfl) (p:Lp C H S:=by exact wY):QM P ops Q n Hq nk m L F H i:=BM 1 i hi hg hd (bG ho c hv p) k
theorem Ce (i:Nat) [hc:cG P f] (c:Ct P f vs C Rs) (k: ∀ v H',(∃ H1,Rs v H1∧H'=H1++S)→(nk.contains i=false→HSub H' Hq)∧dM P ops Q n Hq nk r (i+1) m (L.setIfInBounds i true) ((d,v)::F) H') (hi:ops[i]? =some ⟨some d,op,ty,ps,af,g⟩:=by exact rfl) (ho:op= .call { callee:= .value (.func f),args:=args.toArray,argTypes:=ts }:=by exact rfl) (hr:Region.ready .any ops L=[i]:=by kernel_rfl) (hg:mV ops F ⟨some d,op,ty,ps,af,g⟩:=by exact wt) (hd:Nat.blt d n=true:=by exact rfl) (hv:WZ F args=some vs:=by exact rfl) (p:kT C H S:=by exact pca):dM P ops Q n Hq nk r j (m+1) L F H:=aB i (jH (dX op) hi rfl hr hg hd (afQ ho c hv p) k)
variable {i:Nat}
theorem Oa (hi:ops[i]? =some ⟨some d,op,ty,ps,af,g⟩:=by exact rfl) (hr:Region.ready .any ops L=[i]:=by kernel_rfl) (hg:mV ops F ⟨some d,op,ty,ps,af,g⟩:=by exact wt) (hd:Nat.blt d n=true:=by exact rfl) (l:cN P n ⟨some d,op,ty,ps,af,g⟩ F H K) (k: ∀ v H',K v H'→(nk.contains i=false→HSub H' Hq)∧dM P ops Q n Hq nk r (i+1) m (L.setIfInBounds i true) ((d,v)::F) H'):dM P ops Q n Hq nk r i (m+1) L F H:=jH (dX op) hi rfl hr hg hd l k
theorem Ob (hi:ops[i]? =some ⟨none,op,ty,ps,af,g⟩:=by exact rfl) (hr:Region.ready .any ops L=[i]:=by kernel_rfl) (hg:mV ops F ⟨none,op,ty,ps,af,g⟩:=by exact wt) (l:cN P n ⟨none,op,ty,ps,af,g⟩ F H K) (k: ∀ v H',K v H'→(nk.contains i=false→HSub H' Hq)∧dM P ops Q n Hq nk r (i+1) m (L.setIfInBounds i true) F H'):dM P ops Q n Hq nk r i (m+1) L F H:=JE (dX op) hi rfl hr hg l k
theorem Oc (hi:ops[i]? =some ⟨some d,op,ty,ps,af,g⟩:=by exact rfl) (hg:mV ops F ⟨some d,op,ty,ps,af,g⟩:=by exact wt) (hd:Nat.blt d n=true:=by exact rfl) (l:cN P n ⟨some d,op,ty,ps,af,g⟩ F H K) (k: ∀ v H',K v H'→(nk.contains i=false→HSub H' Hq)∧dM P ops Q n Hq nk 1 0 m (L.setIfInBounds i true) ((d,v)::F) H'):QM P ops Q n Hq nk m L F H i:=BM 1 i hi hg hd l k
end
section
variable {P:Program} {n:Nat} {F:eE} {H R S:List Ent} {o:Oper} {x y:Operand} {v u z':Value}
theorem Ma {t e e' sz by' cnt:Nat} {agg:Bool} [ht:pD P t e] [hs:Ty P e agg sz by' z'] {α:Type} (f:α→List Value) (ys:List α) {news:List Value} (ho:o.op= .call { callee:= .builtin .append,args:= #[x,y],argTypes:= #[t,t] }) (hx:ev F x=some (.slice none 0 0):=by exact rfl) (hy:ev F y=some u:=by exact rfl) (q:bQ (own u e' sz cnt news) H R:=by exact aU) (hn:news=flat f ys:=by rfl) (hc:cnt=ys.length:=by rfl) (hf: ∀ y,(f y).length=sz:=by intro _;rfl) (hf1: ∀ y, ∀ u∈f y,u.oneCell'=true:=by (first|exact acJ|exact acK|exact acL|exact acM|exact EJ|exact yU|exact OT|exact OU|exact EK|exact acO|exact OW|exact QR|exact BO|assumption)) (hsz:Nat.blt 0 sz=true:=by exact rfl) (hb:ys.length*by'≤140737488355328:=by simp only[List.length_cons,List.length_nil];omega) (h63:ys.length≤maxLen:=by (unfold maxLen);simp only[List.length_cons,List.length_nil];omega):
  cN P n o F H fun r H'=> ∃ q' cap',r= .slice q' ys.length cap'∧H'=own (.slice q' ys.length cap') e sz ys.length (flat f ys)::R:=OD f ys ho hx hy q hn hc hf hf1 hsz hb h63
theorem Mb {t e e' sz by' m cnt:Nat} {agg:Bool} [ht:pD P t e] [hs:Ty P e agg sz by' z'] {α:Type} (f:α→List Value) (ys:List α) {zs:List α} {news:List Value} (ho:o.op= .call { callee:= .builtin .append,args:= #[x,y],argTypes:= #[t,t] }) (hx:ev F x=some v:=by exact rfl) (hy:ev F y=some u:=by exact rfl) (p:bQ (own v e sz m (flat f zs)) H R:=by exact aU) (q:bQ (own u e' sz cnt news) R S:=by exact aU) (hn:news=flat f ys:=by rfl) (hc:cnt=ys.length:=by rfl) (hm:m=zs.length:=by first|rfl|omega) (hf: ∀ y,(f y).length=sz:=by intro _;rfl) (hf1: ∀ y, ∀ u∈f y,u.oneCell'=true:=by (first|exact acJ|exact acK|exact acL|exact acM|exact EJ|exact yU|exact OT|exact OU|exact EK|exact acO|exact OW|exact QR|exact BO|assumption)) (hsz:Nat.blt 0 sz=true:=by exact rfl) (hb:(zs.length+ys.length)*by'≤140737488355328:=by simp only[List.length_cons,List.length_nil];omega) (h63:zs.length+ys.length≤maxLen:=by (unfold maxLen);simp only[List.length_cons,List.length_nil];omega):
  cN P n o F H fun r H'=> ∃ q' cap',r= .slice q' (zs++ys).length cap'∧H'=own (.slice q' (zs++ys).length cap') e sz (zs++ys).length (flat f (zs++ys))::S:=wU f ys ho hx hy p q hn hc hm hf hf1 hsz hb h63
end
theorem bM {P Q:Prop} (q:Q) (h:Tk Q→P:=by intro h;(repeat' (first|refine Wa ?_|refine We ?_|fail));exact h.go):P:=h ⟨q⟩
theorem iC {P Q:Prop} (q:Q) (h:Tk Q→P:=by intro h;(repeat' (first|refine Wa ?_|fail));exact h.go):P:=h ⟨q⟩
theorem jV {P Q:Prop} (q:Q) (h:Tk Q→P:=by intro h;(repeat' (first|refine Wk ?_|refine Wz ?_|fail));exact h.go):P:=h ⟨q⟩
theorem kB {P Q:Prop} (q:Q) (h:Tk Q→P:=by intro h;(repeat' (first|refine Wa ?_|refine jU ?_|fail));exact h.go):P:=h ⟨q⟩
theorem sO {P Q:Prop} (q:Q) (h:Tk Q→P:=by intro h;(repeat' (first|refine Wa ?_|refine Wk ?_|fail));exact h.go):P:=h ⟨q⟩
theorem Yw6 {P Q:Prop} (q:Q) (h:Tk Q→P:=by intro h;(repeat' (first|refine Wa ?_|refine Wk ?_|refine We ?_|fail));exact h.go):P:=h ⟨q⟩
theorem Yw7 {P Q:Prop} (q:Q) (h:Tk Q→P:=by intro h;(repeat' (first|refine Wk ?_|fail));exact h.go):P:=h ⟨q⟩
theorem Yw8 {P Q:Prop} (q:Q) (h:Tk Q→P:=by intro h;(repeat' (first|refine Wa ?_|refine Wk ?_|refine We ?_|refine Wz ?_|fail));exact h.go):P:=h ⟨q⟩
end sl
section
open Go.RowKit bO sl
theorem aF {P Q:Prop} (q:Q) (h:Tk Q→P:=by intro h;(repeat' (first|refine Wa ?_|refine Wk ?_|refine We ?_|(refine Wb ?_;intro b)|(refine Wq ?_;intro q)|(refine Ws ?_ ?_<;>intro h)|refine Wz ?_|fail));exact h.go):P:=h ⟨q⟩
theorem QS {P Q:Prop} (q:Q) (h:Tk Q→P:=by intro h;(repeat' (first|refine Wa ?_|refine We ?_|refine Wc (G1 ..) ?_|fail));exact h.go):P:=h ⟨q⟩
theorem dE {P Q:Prop} (q:Q) (h:Tk Q→P:=by intro h;(repeat' (first|refine Wo ?_|refine jU ?_|(refine Wb ?_;intro b)|(refine Wq ?_;intro q)|(refine Ws ?_ ?_<;>intro h)|fail));exact h.go):P:=h ⟨q⟩
theorem yW {P Q:Prop} (q:Q) (h:Tk Q→P:=by intro h;(repeat' (first|refine Wo ?_|refine jU ?_|(refine Wb ?_;intro b)|(refine Wq ?_;intro q)|(refine Ws ?_ ?_<;>intro h)|fail));revert b;exact h.go):P:=h ⟨q⟩
theorem JF {P Q:Prop} (q:Q) (h:Tk Q→P:=by intro h;(repeat' (first|refine Wa ?_|refine We ?_|(refine Wb ?_;intro b)|refine Wc (N0 ..) ?_|refine Wc (O0 ..) ?_|fail));revert b;exact h.go):P:=h ⟨q⟩
theorem bF {P Q:Prop} (q:Q) (h:Tk Q→P:=by intro h;(repeat' (first|refine Wa ?_|refine We ?_|(refine Wb ?_;intro b)|fail));revert b;exact h.go):P:=h ⟨q⟩
theorem yX {P Q:Prop} (q:Q) (h:Tk Q→P:=by intro h;(repeat' (first|refine Wa ?_|refine We ?_|(refine Wb ?_;intro b)|refine Wc (R0 ..) ?_|fail));revert b;exact h.go):P:=h ⟨q⟩
theorem ER {P Q:Prop} (q:Q) (h:Tk Q→P:=by intro h;(repeat' (first|refine Wa ?_|refine We ?_|refine Wc (CK ..) ?_|fail));exact h.go):P:=h ⟨q⟩
theorem iB {P Q:Prop} (q:Q) (h:Tk Q→P:=by intro h;(repeat' (first|refine Wa ?_|refine jU ?_|(refine Wb ?_;intro b)|fail));revert b;exact h.go):P:=h ⟨q⟩
theorem JG {P Q:Prop} (q:Q) (h:Tk Q→P:=by intro h;(repeat' (first|refine Wa ?_|refine Wk ?_|refine We ?_|(refine Wb ?_;intro b)|fail));revert b;exact h.go):P:=h ⟨q⟩
theorem YQ {P Q:Prop} (q:Q) (h:Tk Q→P:=by intro h;(repeat' (first|refine Wa ?_|refine We ?_|(refine Wb ?_;intro b)|refine Wc (P0 ..) ?_|fail));revert b;exact h.go):P:=h ⟨q⟩
theorem bD {P Q:Prop} (q:Q) (h:Tk Q→P:=by intro h;(repeat' (first|refine Wa ?_|refine Wk ?_|refine jU ?_|(refine Wb ?_;intro b)|(refine Wq ?_;intro q)|(refine Ws ?_ ?_<;>intro h)|refine Wz ?_|fail));revert b;exact h.go):P:=h ⟨q⟩
theorem dP {P Q:Prop} (q:Q) (h:Tk Q→P:=by intro h;(repeat' (first|refine Wa ?_|refine Wk ?_|refine We ?_|(refine Wb ?_;intro b)|(refine Wr ?_;intro q)|(refine Ws ?_ ?_<;>intro h)|refine Wz ?_|fail));exact h.go):P:=h ⟨q⟩
theorem fH {P Q:Prop} (q:Q) (h:Tk Q→P:=by intro h;(repeat' (first|refine Wa ?_|refine Wk ?_|refine We ?_|(refine Wb ?_;intro b)|(refine Wq ?_;intro q)|(refine Ws ?_ ?_<;>intro h)|refine Wz ?_|fail));revert b;exact h.go):P:=h ⟨q⟩
theorem auD {P Q:Prop} (q:Q) (h:Tk Q→P:=by intro h;(repeat' (first|refine Wa ?_|refine Wk ?_|refine We ?_|(refine Wb ?_;intro b)|(refine Wq ?_;intro q)|refine Wc (CK ..) ?_|(refine Ws ?_ ?_<;>intro h)|refine Wz ?_|fail));revert b;exact h.go):P:=h ⟨q⟩
theorem ES {P Q:Prop} (q:Q) (h:Tk Q→P:=by intro h;(repeat' (first|refine Wa ?_|refine Wk ?_|refine We ?_|(refine Wb ?_;intro b)|(refine Wq ?_;intro q)|refine Wc (G1 ..) ?_|(refine Ws ?_ ?_<;>intro h)|refine Wz ?_|fail));exact h.go):P:=h ⟨q⟩
theorem agB {P Q:Prop} (q:Q) (h:Tk Q→P:=by intro h;(repeat' (first|refine Wa ?_|refine Wk ?_|refine We ?_|(refine Wb ?_;intro b)|(refine Wq ?_;intro q)|refine Wc (CK ..) ?_|(refine Ws ?_ ?_<;>intro h)|refine Wz ?_|fail));exact h.go):P:=h ⟨q⟩
theorem mW {P Q:Prop} (q:Q) (h:Tk Q→P:=by intro h;(repeat' (first|refine Wa ?_|refine We ?_|(refine Wq ?_;intro q)|fail));revert q;exact h.go):P:=h ⟨q⟩
theorem yY {P Q:Prop} (q:Q) (h:Tk Q→P:=by intro h;(repeat' (first|refine Wa ?_|refine We ?_|(refine Wb ?_;intro b)|refine Wc (CK ..) ?_|fail));revert b;exact h.go):P:=h ⟨q⟩
theorem QT {P Q:Prop} (q:Q) (h:Tk Q→P:=by intro h;(repeat' (first|refine Wa ?_|refine We ?_|refine Wc (L0 ..) ?_|fail));exact h.go):P:=h ⟨q⟩
theorem ET {P Q:Prop} (q:Q) (h:Tk Q→P:=by intro h;(repeat' (first|refine We1 ?_|refine Wa ?_|refine We ?_|fail));exact h.go):P:=h ⟨q⟩
theorem JH {P Q:Prop} (q:Q) (h:Tk Q→P:=by intro h;(repeat' (first|refine Wa ?_|refine jU ?_|(refine Wq ?_;intro q)|fail));revert q;exact h.go):P:=h ⟨q⟩
theorem JI {P Q:Prop} (q:Q) (h:Tk Q→P:=by intro h;(repeat' (first|refine Wa ?_|refine Wk ?_|refine We ?_|(refine Wb ?_;intro b)|(refine Wq ?_;intro q)|refine Wc (C0 ..) ?_|(refine Ws ?_ ?_<;>intro h)|refine Wz ?_|fail));revert b;exact h.go):P:=h ⟨q⟩
theorem agC {P Q:Prop} (q:Q) (h:Tk Q→P:=by intro h;(repeat' (first|refine Wa ?_|refine We ?_|refine Wc (I0 ..) ?_|fail));exact h.go):P:=h ⟨q⟩
theorem yZ {P Q:Prop} (q:Q) (h:Tk Q→P:=by intro h;(repeat' (first|refine Wa ?_|refine We ?_|(refine Wb ?_;intro b)|refine Wc (G0 ..) ?_|fail));revert b;exact h.go):P:=h ⟨q⟩
theorem JJ {P Q:Prop} (q:Q) (h:Tk Q→P:=by intro h;(repeat' (first|refine Wa ?_|refine We ?_|(refine Wb ?_;intro b)|refine Wc (C0 ..) ?_|fail));revert b;exact h.go):P:=h ⟨q⟩
theorem EU {P Q:Prop} (q:Q) (h:Tk Q→P:=by intro h;(repeat' (first|refine Wa ?_|refine We ?_|refine Wc (C0 ..) ?_|fail));exact h.go):P:=h ⟨q⟩
theorem EV {P Q:Prop} (q:Q) (h:Tk Q→P:=by intro h;(repeat' (first|refine Wa ?_|refine We ?_|refine Wg (K0 ..) ?_|fail));exact h.go):P:=h ⟨q⟩
theorem QU {P Q:Prop} (q:Q) (h:Tk Q→P:=by intro h;(repeat' (first|refine Wa ?_|refine We ?_|refine Wc (C0 ..) ?_|refine Wc (G0 ..) ?_|refine Wc (S0 ..) ?_|fail));exact h.go):P:=h ⟨q⟩
theorem uB {P Q:Prop} (q:Q) (h:Tk Q→P:=by intro h;(repeat' (first|refine Wa ?_|refine jU ?_|(refine Wb ?_;intro b)|(refine Wq ?_;intro q)|(refine Ws ?_ ?_<;>intro h)|fail));exact h.go):P:=h ⟨q⟩
theorem auE {P Q:Prop} (q:Q) (h:Tk Q→P:=by intro h;(repeat' (first|refine Wa ?_|refine Wk ?_|refine We ?_|(refine Wb ?_;intro b)|(refine Wq ?_;intro q)|refine Wc (R0 ..) ?_|(refine Ws ?_ ?_<;>intro h)|refine Wz ?_|fail));revert b;exact h.go):P:=h ⟨q⟩
theorem aBS {P Q:Prop} (q:Q) (h:Tk Q→P:=by intro h;(repeat' (first|refine Wa ?_|refine Wk ?_|refine We ?_|(refine Wb ?_;intro b)|(refine Wq ?_;intro q)|refine Wc (R0 ..) ?_|(refine Ws ?_ ?_<;>intro h)|refine Wz ?_|fail));exact h.go):P:=h ⟨q⟩
theorem agD {P Q:Prop} (q:Q) (h:Tk Q→P:=by intro h;(repeat' (first|refine Wa ?_|refine Wk ?_|refine We ?_|(refine Wb ?_;intro b)|(refine Wq ?_;intro q)|refine Wc (FN ..) ?_|(refine Ws ?_ ?_<;>intro h)|refine Wz ?_|fail));exact h.go):P:=h ⟨q⟩
theorem aM {P Q:Prop} (q:Q) (h:Tk Q→P:=by intro h;(repeat' (first|refine Wa ?_|refine Wk ?_|refine jU ?_|(refine Wb ?_;intro b)|(refine Wq ?_;intro q)|(refine Ws ?_ ?_<;>intro h)|refine Wz ?_|fail));exact h.go):P:=h ⟨q⟩
theorem JK {P Q:Prop} (q:Q) (h:Tk Q→P:=by intro h;(repeat' (first|refine Wa ?_|refine Wk ?_|refine We ?_|(refine Wb ?_;intro b)|(refine Wq ?_;intro q)|(refine Ws ?_ ?_<;>intro h)|refine Wz ?_|fail));revert q;exact h.go):P:=h ⟨q⟩
theorem jI {P Q:Prop} (q:Q) (h:Tk Q→P:=by intro h;(repeat' (first|refine Xa ?_|(refine Xb ?_;intro b)|(refine Xq ?_;intro q)|fail));exact h.go):P:=h ⟨q⟩
theorem QV {P Q:Prop} (q:Q) (h:Tk Q→P:=by intro h;(repeat' (first|refine Xa ?_|(refine Xb ?_;intro b)|(refine Xq ?_;intro q)|refine Xc (I0 ..) ?_|fail));exact h.go):P:=h ⟨q⟩
theorem agE {P Q:Prop} (q:Q) (h:Tk Q→P:=by intro h;(repeat' (first|refine Xa ?_|(refine Xb ?_;intro b)|(refine Xq ?_;intro q)|refine Xc (G0 ..) ?_|fail));exact h.go):P:=h ⟨q⟩
theorem auF {P Q:Prop} (q:Q) (h:Tk Q→P:=by intro h;(repeat' (first|refine Xa ?_|(refine Xb ?_;intro b)|(refine Xq ?_;intro q)|refine Xc (G0 ..) ?_|fail));revert q;exact h.go):P:=h ⟨q⟩
theorem agF {P Q:Prop} (q:Q) (h:Tk Q→P:=by intro h;(repeat' (first|refine Wa ?_|refine We ?_|refine Wc (FA ..) ?_|fail));exact h.go):P:=h ⟨q⟩
theorem lG {P Q:Prop} (q:Q) (h:Tk Q→P:=by intro h;(repeat' (first|refine Wa ?_|refine Wk ?_|refine We ?_|(refine Wb ?_;intro b)|(refine Wq ?_;intro q)|refine Wc (FA ..) ?_|(refine Ws ?_ ?_<;>intro h)|refine Wz ?_|fail));exact h.go):P:=h ⟨q⟩
theorem YR {P Q:Prop} (q:Q) (h:Tk Q→P:=by intro h;(repeat' (first|refine Wa ?_|refine Wk ?_|refine We ?_|(refine Wb ?_;intro b)|(refine Wq ?_;intro q)|refine Wc (FA ..) ?_|(refine Ws ?_ ?_<;>intro h)|refine Wz ?_|fail));revert b;exact h.go):P:=h ⟨q⟩
theorem zA {P Q:Prop} (q:Q) (h:Tk Q→P:=by intro h;(repeat' (first|refine Wa ?_|refine Wk ?_|refine We ?_|(refine Wb ?_;intro b)|(refine Wq ?_;intro q)|refine Wc (UN _ _ _ _) ?_|(refine Ws ?_ ?_<;>intro h)|refine Wz ?_|fail));revert b;exact h.go):P:=h ⟨q⟩
theorem YS {P Q:Prop} (q:Q) (h:Tk Q→P:=by intro h;(repeat' (first|refine Wa ?_|refine Wk ?_|refine We ?_|(refine Wb ?_;intro b)|(refine Wq ?_;intro q)|refine Wc (FN ..) ?_|(refine Ws ?_ ?_<;>intro h)|refine Wz ?_|fail));revert b;exact h.go):P:=h ⟨q⟩
theorem YT {P Q:Prop} (q:Q) (h:Tk Q→P:=by intro h;(repeat' (first|refine Wa ?_|refine Wk ?_|refine jU ?_|(refine Wb ?_;intro b)|fail));revert b;exact h.go):P:=h ⟨q⟩
theorem auG {P Q:Prop} (q:Q) (h:Tk Q→P:=by intro h;(repeat' (first|refine Wa ?_|refine Wk ?_|refine We ?_|(refine Wb ?_;intro b)|(refine Wr ?_;intro q)|(refine Ws ?_ ?_<;>intro h)|refine Wz ?_|fail));revert b;exact h.go):P:=h ⟨q⟩
theorem JL {P Q:Prop} (q:Q) (h:Tk Q→P:=by intro h;(repeat' (first|refine Wa ?_|refine Wk ?_|refine We ?_|(refine Wb ?_;intro b)|(refine Wq ?_;intro q)|refine Wc (SM ..) ?_|refine Wc (CN ..) ?_|(refine Ws ?_ ?_<;>intro h)|refine Wz ?_|fail));revert b;exact h.go):P:=h ⟨q⟩
theorem Ye {X Y P Q:Prop} (a:X) (b:Y) (q:Q) (h:X→Y→Tk Q→P:=by intro a b h;refine alS a b rfl rfl fun Fr=> ?_;dsimp only[List.cons_append,List.nil_append,ini,Nat.reduceAdd];revert Fr;exact h.go):P:=h a b ⟨q⟩
theorem Za {P:Prop} (h:P:=by simp only[List.length_cons,List.length_nil,Nat.reduceAdd];rfl):P:=h
theorem Zb {P:Prop} (h:P:=by (first|exact HSub.mB (by exact pca))):P:=h
theorem Zc {P:Prop} (h:P:=by (first|exact acJ|exact acK|exact acL|exact acM|exact EJ|exact yU|exact OT|exact OU|exact EK|exact acO|exact OW|exact QR|exact BO|assumption)):P:=h
theorem Zd {P:Prop} (h:P:=by exact dV rfl rfl rfl (by exact aU) (by intro _;rfl) (by (first|exact acJ|exact acK|exact acL|exact acM|exact EJ|exact yU|exact OT|exact OU|exact EK|exact acO|exact OW|exact QR|exact BO|assumption)) rfl (by omega) (by (unfold maxLen);omega)):P:=h
theorem Ze {P:Prop} (h:P:=by exact fsa):P:=h
theorem Zf {P:Prop} (h:P:=by first|rfl|omega):P:=h
theorem Zg {P:Prop} (h:P:=by intro _;rfl):P:=h
theorem Zh {P:Prop} (h:P:=by exact pca):P:=h
theorem Zi {P:Prop} (h:P:=by (unfold maxLen);omega):P:=h
theorem Zj {P:Prop} (h:P:=by first|exact dR rfl rfl rfl (by exact aU) rfl rfl rfl (by exact atT)|exact cR rfl rfl rfl rfl (by exact aU) rfl (by exact atQ)):P:=h
theorem Zk {P:Prop} (h:P:=by exact aU):P:=h
theorem Zl {P:Prop} (h:P:=by unfold maxLen;omega):P:=h
theorem Zm {P:Prop} (h:P:=by rw[List.length_append];omega):P:=h
theorem Zn {P:Prop} (h:P:=by dsimp only;omega):P:=h
theorem Zo {P:Prop} (h:P:=by rw[List.length_drop];omega):P:=h
theorem Zp {P:Prop} (h:P:=by exact atU):P:=h
theorem Zq {P:Prop} (h:P:=by simp;omega):P:=h
theorem Zt {P:Prop} (h:P:=by rw[hE];decide):P:=h
theorem Zu {P:Prop} (h:P:=by unfold pP;dsimp only;omega):P:=h
theorem Zv {P:Prop} (h:P:=by simp only[List.length_append];omega):P:=h
theorem Zw {P:Prop} (h:P:=by first|exact fun _=>(by exact kA)|exact fun h=>absurd h (by decide)):P:=h
theorem Zx {P:Prop} (h:P:=by exact Nat.zero_le _):P:=h
theorem Zy {P:Prop} (h:P:=by first|omega|(dsimp only;omega)|dsimp only):P:=h
theorem Zz {P:Prop} (h:P:=by rw[fJ];omega):P:=h
theorem ZA {P:Prop} (h:P:=by simp only[List.length_map];omega):P:=h
theorem ZB {P:Prop} (h:P:=by unfold aQ at hpl;omega):P:=h
theorem ZC {P:Prop} (h:P:=by simpa using h1):P:=h
theorem ZD {P:Prop} (h:P:=by exact⟨Nat.zero_le _,rfl⟩):P:=h
theorem ZE {P:Prop} (h:P:=by unfold dI;rw[List.length_take];omega):P:=h
theorem ZF {P:Prop} (h:P:=by (have a9:=t9;have a0:=t0;simp at a9 a0;omega)):P:=h
theorem ZG {P:Prop} (h:P:=by rw[kC];exact hj):P:=h
theorem ZH {P:Prop} (h:P:=by rw[List.length_take];omega):P:=h
theorem ZI {P:Prop} (h:P:=by rw[cZ];unfold maxLen;omega):P:=h
theorem ZJ {P:Prop} (h:P:=by simp [(eI E).2 hg]):P:=h
theorem ZK {P:Prop} (h:P:=by simpa using hp):P:=h
theorem ZL {P:Prop} (h:P:=by rw[List.getElem?_map,hx];rfl):P:=h
theorem ZM {P:Prop} (h:P:=by rw[List.length_drop];exact Nat.le_refl _):P:=h
theorem ZN {P:Prop} (h:P:=by rw[eV,List.length_take];omega):P:=h
theorem ZO {P:Prop} (h:P:=by simpa using hl):P:=h
theorem ZP {P:Prop} (h:P:=by rw[mX];exact aQK):P:=h
theorem ZQ {P:Prop} (h:P:=by (try dsimp only);exact fsa):P:=h
theorem ZR {P:Prop} (h:P:=by rw[Lib.size_eq];exact Nat.le_refl _):P:=h
theorem ZS {P:Prop} (h:P:=by rw[mN];rfl):P:=h
theorem ZT {P:Prop} (h:P:=by trivial):P:=h
theorem ZU {P:Prop} (h:P:=by simpa using h0):P:=h
theorem ZV {P:Prop} (h:P:=by simp [hf]):P:=h
theorem ZW {P:Prop} (h:P:=by show min _ _=_;omega):P:=h
theorem ZX {P:Prop} (h:P:=by rw[e];exact List.mem_cons_self):P:=h
theorem ZY {P:Prop} (h:P:=by exact atT):P:=h
theorem ZZ {P:Prop} (h:P:=by exact atQ):P:=h
theorem Z1 {P:Prop} (h:P:=by exact⟨Nat.zero_le _,hg,hst⟩):P:=h
theorem Z2 {P:Prop} (h:P:=by simpa using hlt):P:=h
theorem Z3 {P:Prop} (h:P:=by simp [h0]):P:=h
theorem Z4 {P:Prop} (h:P:=by rw[e];rfl):P:=h
theorem Z5 {P:Prop} (h:P:=by simp [h]):P:=h
theorem Z6 {P:Prop} (h:P:=by simpa using h):P:=h
theorem Z7 {P:Prop} (h:P:=by exact⟨by simp [*],(Below.refl _ _).alloc (Nat.le_refl _) _⟩):P:=h
theorem Y1 {P Q:Prop} (q:Q) (h:Tk Q→P:=by intro h;(first|refine Wa ?_|refine Wk ?_|refine We ?_|fail);exact h.go):P:=h ⟨q⟩
theorem Y2 {P Q:Prop} (q:Q) (h:Tk Q→P:=by intro h;(first|refine Wa ?_|refine Wk ?_|refine jU ?_|fail);exact h.go):P:=h ⟨q⟩
theorem Y3 {P Q:Prop} (q:Q) (h:Tk Q→P:=by intro h;(first|refine Wa ?_|refine We ?_|fail);exact h.go):P:=h ⟨q⟩
theorem Y4 {P Q:Prop} (q:Q) (h:Tk Q→P:=by intro h;(first|refine Wa ?_|refine jU ?_|fail);exact h.go):P:=h ⟨q⟩
theorem Y5 {P Q:Prop} (q:Q) (h:Tk Q→P:=by intro h;(first|refine Wo ?_|refine jU ?_|fail);exact h.go):P:=h ⟨q⟩
theorem Y6 {P Q:Prop} (q:Q) (h:Tk Q→P:=by intro h;(first|refine Wa ?_|refine Wk ?_|fail);exact h.go):P:=h ⟨q⟩
end
namespace sl
open Go.RowKit bO
set_option maxRecDepth 100000
instance:Ty lk 3 false 1 8 (.int .i64 0):=⟨Jd,Jb⟩
instance:Zr lk 3 [.int .i64 0]:=⟨_,_,_,_,inferInstance,rfl⟩
instance:AA lk 3 .i64:=⟨Jd⟩
instance:Ty lk 4 false 1 1 (.bool false):=⟨Jd,Jb⟩
instance:Ty lk 5 false 1 1 (.int .u8 0):=⟨Jd,Jb⟩
instance:AA lk 5 .u8:=⟨Jd⟩
instance:Ty lk 9 false 1 16 (.string ⟨#[]⟩):=⟨Jd,Jb⟩
instance:EB lk 9:=⟨Jd⟩
instance:AA lk 21 .i32:=⟨Jd⟩
instance:pD lk 22 27:=⟨Jd⟩
instance:Ty lk 23 false 1 24 (.slice none 0 0):=⟨Jd,Jb⟩
instance:pD lk 23 3:=⟨Jd⟩
instance:Ty lk 27 true 6 72 (.agg #[.int .i64 0, .string ⟨#[]⟩, .string ⟨#[]⟩, .int .i64 0, .int .i64 0, .string ⟨#[]⟩]):=⟨Jd,Jb⟩
instance:Zr lk 27 [.int .i64 0, .string ⟨#[]⟩, .string ⟨#[]⟩, .int .i64 0, .int .i64 0, .string ⟨#[]⟩]:=⟨_,_,_,_,inferInstance,rfl⟩
instance:lX lk 27 0 0 1:=⟨Jd,Z9⟩
instance:lX lk 27 1 1 1:=⟨Jd,Z9⟩
instance:lX lk 27 2 2 1:=⟨Jd,Z9⟩
instance:lX lk 27 3 3 1:=⟨Jd,Z9⟩
instance:lX lk 27 4 4 1:=⟨Jd,Z9⟩
instance:lX lk 27 5 5 1:=⟨Jd,Z9⟩
instance:Ty lk 28 false 1 8 (.int .i64 0):=⟨Jd,Jb⟩
instance:Zr lk 28 [.int .i64 0]:=⟨_,_,_,_,inferInstance,rfl⟩
instance:Ty lk 29 false 1 24 (.slice none 0 0):=⟨Jd,Jb⟩
instance:Zr lk 29 [.slice none 0 0]:=⟨_,_,_,_,inferInstance,rfl⟩
instance:pD lk 29 9:=⟨Jd⟩
instance:Ty lk 31 true 5 64 (.agg #[.int .i64 0, .string ⟨#[]⟩, .int .i64 0, .int .i64 0, .slice none 0 0]):=⟨Jd,Jb⟩
instance:Zr lk 31 [.int .i64 0, .string ⟨#[]⟩, .int .i64 0, .int .i64 0, .slice none 0 0]:=⟨_,_,_,_,inferInstance,rfl⟩
instance:lX lk 31 0 0 1:=⟨Jd,Z9⟩
instance:lX lk 31 4 4 1:=⟨Jd,Z9⟩
instance:WT lk 31 (.agg #[.int .i64 0, .string ⟨#[]⟩, .int .i64 0, .int .i64 0, .slice none 0 0]) [(0,1),(1,1),(2,1),(3,1),(4,1)]:=⟨Jd⟩
instance:Ty lk 49 false 1 24 (.slice none 0 0):=⟨Jd,Jb⟩
instance:pD lk 49 130:=⟨Jd⟩
instance:Ty lk 51 true 2 48 (.agg #[.slice none 0 0, .slice none 0 0]):=⟨Jd,Jb⟩
instance:Zr lk 51 [.slice none 0 0, .slice none 0 0]:=⟨_,_,_,_,inferInstance,rfl⟩
instance:lX lk 51 0 0 1:=⟨Jd,Z9⟩
instance:lX lk 51 1 1 1:=⟨Jd,Z9⟩
instance:WT lk 51 (.agg #[.slice none 0 0, .slice none 0 0]) [(0,1),(1,1)]:=⟨Jd⟩
instance:Ty lk 60 false 1 24 (.slice none 0 0):=⟨Jd,Jb⟩
instance:pD lk 60 87:=⟨Jd⟩
instance:Ty lk 67 true 2 32 (.agg #[.int .i64 0, .slice none 0 0]):=⟨Jd,Jb⟩
instance:Zr lk 67 [.int .i64 0, .slice none 0 0]:=⟨_,_,_,_,inferInstance,rfl⟩
instance:lX lk 67 0 0 1:=⟨Jd,Z9⟩
instance:lX lk 67 1 1 1:=⟨Jd,Z9⟩
instance:WT lk 67 (.agg #[.int .i64 0, .slice none 0 0]) [(0,1),(1,1)]:=⟨Jd⟩
instance:Ty lk 71 false 1 24 (.slice none 0 0):=⟨Jd,Jb⟩
instance:pD lk 71 77:=⟨Jd⟩
instance:Ty lk 73 true 2 48 (.agg #[.slice none 0 0, .slice none 0 0]):=⟨Jd,Jb⟩
instance:Zr lk 73 [.slice none 0 0, .slice none 0 0]:=⟨_,_,_,_,inferInstance,rfl⟩
instance:lX lk 73 0 0 1:=⟨Jd,Z9⟩
instance:lX lk 73 1 1 1:=⟨Jd,Z9⟩
instance:WT lk 73 (.agg #[.slice none 0 0, .slice none 0 0]) [(0,1),(1,1)]:=⟨Jd⟩
instance:Ty lk 77 true 2 16 (.agg #[.int .i64 0, .int .i64 0]):=⟨Jd,Jb⟩
instance:Zr lk 77 [.int .i64 0, .int .i64 0]:=⟨_,_,_,_,inferInstance,rfl⟩
instance:lX lk 77 0 0 1:=⟨Jd,Z9⟩
instance:lX lk 77 1 1 1:=⟨Jd,Z9⟩
instance:WT lk 77 (.agg #[.int .i64 0, .int .i64 0]) [(0,1),(1,1)]:=⟨Jd⟩
instance:Ty lk 79 true 4 48 (.agg #[.int .i64 0, .int .i64 0, .int .i64 0, .slice none 0 0]):=⟨Jd,Jb⟩
instance:Zr lk 79 [.int .i64 0, .int .i64 0, .int .i64 0, .slice none 0 0]:=⟨_,_,_,_,inferInstance,rfl⟩
instance:lX lk 79 0 0 1:=⟨Jd,Z9⟩
instance:lX lk 79 1 1 1:=⟨Jd,Z9⟩
instance:lX lk 79 2 2 1:=⟨Jd,Z9⟩
instance:lX lk 79 3 3 1:=⟨Jd,Z9⟩
instance:WT lk 79 (.agg #[.int .i64 0, .int .i64 0, .int .i64 0, .slice none 0 0]) [(0,1),(1,1),(2,1),(3,1)]:=⟨Jd⟩
instance:Ty lk 87 true 3 32 (.agg #[.int .i64 0, .int .i64 0, .string ⟨#[]⟩]):=⟨Jd,Jb⟩
instance:Zr lk 87 [.int .i64 0, .int .i64 0, .string ⟨#[]⟩]:=⟨_,_,_,_,inferInstance,rfl⟩
instance:lX lk 87 0 0 1:=⟨Jd,Z9⟩
instance:lX lk 87 1 1 1:=⟨Jd,Z9⟩
instance:lX lk 87 2 2 1:=⟨Jd,Z9⟩
instance:WT lk 87 (.agg #[.int .i64 0, .int .i64 0, .string ⟨#[]⟩]) [(0,1),(1,1),(2,1)]:=⟨Jd⟩
instance:Ty lk 118 true 3 56 (.agg #[.int .i64 0, .slice none 0 0, .slice none 0 0]):=⟨Jd,Jb⟩
instance:Zr lk 118 [.int .i64 0, .slice none 0 0, .slice none 0 0]:=⟨_,_,_,_,inferInstance,rfl⟩
instance:lX lk 118 0 0 1:=⟨Jd,Z9⟩
instance:lX lk 118 1 1 2:=⟨Jd,Z9⟩
instance:WT lk 118 (.agg #[.int .i64 0, .slice none 0 0, .slice none 0 0]) [(0,1),(1,2)]:=⟨Jd⟩
instance:Ty lk 130 true 2 24 (.agg #[.int .i64 0, .string ⟨#[]⟩]):=⟨Jd,Jb⟩
instance:Zr lk 130 [.int .i64 0, .string ⟨#[]⟩]:=⟨_,_,_,_,inferInstance,rfl⟩
instance:lX lk 130 0 0 1:=⟨Jd,Z9⟩
instance:lX lk 130 1 1 1:=⟨Jd,Z9⟩
instance:WT lk 130 (.agg #[.int .i64 0, .string ⟨#[]⟩]) [(0,1),(1,1)]:=⟨Jd⟩
instance:Pln lk 130 [(0,0),(1,1)]:=⟨Jd⟩
instance:EqV lk 130 (fun p=>ld (fP p).toArray):=aPW inferInstance aTI
instance:lX lk 134 0 0 2:=⟨Jd,Z9⟩
instance:lX lk 134 1 2 2:=⟨Jd,Z9⟩
instance:lX lk 134 2 4 1:=⟨Jd,Z9⟩
instance:lX lk 134 3 5 1:=⟨Jd,Z9⟩
instance:lX lk 134 4 6 1:=⟨Jd,Z9⟩
instance:lX lk 134 5 7 1:=⟨Jd,Z9⟩
instance:Ty lk 136 true 8 160 (.agg #[.slice none 0 0, .slice none 0 0, .slice none 0 0, .slice none 0 0, .int .i64 0, .int .i64 0, .slice none 0 0, .slice none 0 0]):=⟨Jd,Jb⟩
instance:Zr lk 136 [.slice none 0 0, .slice none 0 0, .slice none 0 0, .slice none 0 0, .int .i64 0, .int .i64 0, .slice none 0 0, .slice none 0 0]:=⟨_,_,_,_,inferInstance,rfl⟩
instance:lX lk 136 0 0 8:=⟨Jd,Z9⟩
instance:WT lk 136 (.agg #[.slice none 0 0, .slice none 0 0, .slice none 0 0, .slice none 0 0, .int .i64 0, .int .i64 0, .slice none 0 0, .slice none 0 0]) [(0,8)]:=⟨Jd⟩
instance:pD lk 161 175:=⟨Jd⟩
instance:AA lk 165 .u64:=⟨Jd⟩
instance:Ty lk 175 true 4 40 (.agg #[.int .i64 0, .int .i64 0, .int .i64 0, .string ⟨#[]⟩]):=⟨Jd,Jb⟩
instance:Zr lk 175 [.int .i64 0, .int .i64 0, .int .i64 0, .string ⟨#[]⟩]:=⟨_,_,_,_,inferInstance,rfl⟩
instance:lX lk 175 0 0 1:=⟨Jd,Z9⟩
instance:lX lk 175 1 1 1:=⟨Jd,Z9⟩
instance:lX lk 175 2 2 1:=⟨Jd,Z9⟩
instance:lX lk 175 3 3 1:=⟨Jd,Z9⟩
instance:WT lk 175 (.agg #[.int .i64 0, .int .i64 0, .int .i64 0, .string ⟨#[]⟩]) [(0,1),(1,1),(2,1),(3,1)]:=⟨Jd⟩
instance:pD lk 200 204:=⟨Jd⟩
instance:Ty lk 204 true 2 24 (.agg #[.string ⟨#[]⟩, .int .i64 0]):=⟨Jd,Jb⟩
instance:Zr lk 204 [.string ⟨#[]⟩, .int .i64 0]:=⟨_,_,_,_,inferInstance,rfl⟩
instance:lX lk 204 0 0 1:=⟨Jd,Z9⟩
instance:lX lk 204 1 1 1:=⟨Jd,Z9⟩
instance:WT lk 204 (.agg #[.string ⟨#[]⟩, .int .i64 0]) [(0,1),(1,1)]:=⟨Jd⟩
instance:Mp lk 218 3 3:=⟨Jd⟩
instance:pD lk 219 237:=⟨Jd⟩
instance:Ty lk 235 false 1 24 (.slice none 0 0):=⟨Jd,Jb⟩
instance:pD lk 235 289:=⟨Jd⟩
instance:Ty lk 237 true 7 88 (.agg #[.int .i64 0, .int .i64 0, .int .i64 0, .int .i64 0, .slice none 0 0, .slice none 0 0, .bool false]):=⟨Jd,Jb⟩
instance:Zr lk 237 [.int .i64 0, .int .i64 0, .int .i64 0, .int .i64 0, .slice none 0 0, .slice none 0 0, .bool false]:=⟨_,_,_,_,inferInstance,rfl⟩
instance:lX lk 237 0 0 1:=⟨Jd,Z9⟩
instance:lX lk 237 1 1 4:=⟨Jd,Z9⟩
instance:lX lk 237 2 5 1:=⟨Jd,Z9⟩
instance:lX lk 237 3 6 1:=⟨Jd,Z9⟩
instance:WT lk 237 (.agg #[.int .i64 0, .int .i64 0, .int .i64 0, .int .i64 0, .slice none 0 0, .slice none 0 0, .bool false]) [(0,1),(1,4),(5,1),(6,1)]:=⟨Jd⟩
instance:Ty lk 282 false 1 24 (.slice none 0 0):=⟨Jd,Jb⟩
instance:Zr lk 282 [.slice none 0 0]:=⟨_,_,_,_,inferInstance,rfl⟩
instance:pD lk 282 284:=⟨Jd⟩
instance:Ty lk 284 true 3 24 (.agg #[.int .i64 0, .int .i64 0, .int .i64 0]):=⟨Jd,Jb⟩
instance:Zr lk 284 [.int .i64 0, .int .i64 0, .int .i64 0]:=⟨_,_,_,_,inferInstance,rfl⟩
instance:lX lk 284 0 0 1:=⟨Jd,Z9⟩
instance:lX lk 284 1 1 1:=⟨Jd,Z9⟩
instance:lX lk 284 2 2 1:=⟨Jd,Z9⟩
instance:WT lk 284 (.agg #[.int .i64 0, .int .i64 0, .int .i64 0]) [(0,1),(1,1),(2,1)]:=⟨Jd⟩
instance:Ty lk 289 true 4 40 (.agg #[.int .i64 0, .int .i64 0, .string ⟨#[]⟩, .bool false]):=⟨Jd,Jb⟩
instance:Zr lk 289 [.int .i64 0, .int .i64 0, .string ⟨#[]⟩, .bool false]:=⟨_,_,_,_,inferInstance,rfl⟩
instance:lX lk 289 0 0 2:=⟨Jd,Z9⟩
instance:lX lk 289 1 2 1:=⟨Jd,Z9⟩
instance:lX lk 289 2 3 1:=⟨Jd,Z9⟩
instance:WT lk 289 (.agg #[.int .i64 0, .int .i64 0, .string ⟨#[]⟩, .bool false]) [(0,2),(2,1),(3,1)]:=⟨Jd⟩
instance:Ty lk 292 false 1 24 (.slice none 0 0):=⟨Jd,Jb⟩
instance:pD lk 292 5:=⟨Jd⟩
instance:Ty lk 306 true 2 24 (.agg #[.string ⟨#[]⟩, .bool false]):=⟨Jd,Jb⟩
instance:Zr lk 306 [.string ⟨#[]⟩, .bool false]:=⟨_,_,_,_,inferInstance,rfl⟩
instance:lX lk 306 0 0 1:=⟨Jd,Z9⟩
instance:lX lk 306 1 1 1:=⟨Jd,Z9⟩
instance:WT lk 306 (.agg #[.string ⟨#[]⟩, .bool false]) [(0,1),(1,1)]:=⟨Jd⟩
instance:pD lk 308 356:=⟨Jd⟩
instance:Ty lk 313 true 2 32 (.agg #[.pointer none, .slice none 0 0]):=⟨Jd,Jb⟩
instance:Zr lk 313 [.pointer none, .slice none 0 0]:=⟨_,_,_,_,inferInstance,rfl⟩
instance:lX lk 313 1 1 1:=⟨Jd,Z9⟩
instance:AA lk 322 .u32:=⟨Jd⟩
instance:AA lk 330 .u64:=⟨Jd⟩
instance:Ty lk 351 true 49 408 (.agg #[.slice none 0 0, .int .i64 0, .int .i64 0, .int .i64 0, .int .i64 0, .int .i64 0, .int .i64 0, .int .i64 0, .int .i64 0, .int .i64 0, .int .i64 0, .int .i64 0, .int .i64 0, .int .i64 0, .int .i64 0, .int .i64 0, .int .i64 0, .int .i64 0, .int .i64 0, .int .i64 0, .int .i64 0, .int .i64 0, .int .i64 0, .int .i64 0, .int .i64 0, .int .i64 0, .int .i64 0, .int .i64 0, .int .i64 0, .int .i64 0, .int .i64 0, .int .i64 0, .int .i64 0, .int .i64 0, .int .i64 0, .int .i64 0, .int .i64 0, .int .i64 0, .int .i64 0, .int .i64 0, .int .i64 0, .int .i64 0, .int .i64 0, .int .i64 0, .int .i64 0, .int .i64 0, .int .i64 0, .int .i64 0, .int .i64 0]):=⟨Jd,Jb⟩
instance:Zr lk 351 [.slice none 0 0, .int .i64 0, .int .i64 0, .int .i64 0, .int .i64 0, .int .i64 0, .int .i64 0, .int .i64 0, .int .i64 0, .int .i64 0, .int .i64 0, .int .i64 0, .int .i64 0, .int .i64 0, .int .i64 0, .int .i64 0, .int .i64 0, .int .i64 0, .int .i64 0, .int .i64 0, .int .i64 0, .int .i64 0, .int .i64 0, .int .i64 0, .int .i64 0, .int .i64 0, .int .i64 0, .int .i64 0, .int .i64 0, .int .i64 0, .int .i64 0, .int .i64 0, .int .i64 0, .int .i64 0, .int .i64 0, .int .i64 0, .int .i64 0, .int .i64 0, .int .i64 0, .int .i64 0, .int .i64 0, .int .i64 0, .int .i64 0, .int .i64 0, .int .i64 0, .int .i64 0, .int .i64 0, .int .i64 0, .int .i64 0]:=⟨_,_,_,_,inferInstance,rfl⟩
instance:lX lk 351 0 0 1:=⟨Jd,Z9⟩
instance:lX lk 351 1 1 16:=⟨Jd,Z9⟩
instance:lX lk 351 2 17 16:=⟨Jd,Z9⟩
instance:lX lk 351 3 33 16:=⟨Jd,Z9⟩
instance:Ty lk 356 true 3 24 (.agg #[.int .i64 0, .int .i64 0, .int .u8 0]):=⟨Jd,Jb⟩
instance:Zr lk 356 [.int .i64 0, .int .i64 0, .int .u8 0]:=⟨_,_,_,_,inferInstance,rfl⟩
instance:lX lk 356 0 0 1:=⟨Jd,Z9⟩
instance:lX lk 356 1 1 1:=⟨Jd,Z9⟩
instance:lX lk 356 2 2 1:=⟨Jd,Z9⟩
instance:WT lk 356 (.agg #[.int .i64 0, .int .i64 0, .int .u8 0]) [(0,1),(1,1),(2,1)]:=⟨Jd⟩
instance:pD lk 362 23:=⟨Jd⟩
instance:pD lk 390 394:=⟨Jd⟩
instance:Ty lk 394 true 2 16 (.agg #[.int .u64 0, .int .i64 0]):=⟨Jd,Jb⟩
instance:Zr lk 394 [.int .u64 0, .int .i64 0]:=⟨_,_,_,_,inferInstance,rfl⟩
instance:WT lk 394 (.agg #[.int .u64 0, .int .i64 0]) [(0,1),(1,1)]:=⟨Jd⟩
instance:Mp lk 431 433 23:=⟨Jd⟩
instance:Ty lk 433 true 3 3 (.agg #[.int .u8 0, .int .u8 0, .int .u8 0]):=⟨Jd,Jb⟩
instance:Zr lk 433 [.int .u8 0, .int .u8 0, .int .u8 0]:=⟨_,_,_,_,inferInstance,rfl⟩
instance:pD lk 435 437:=⟨Jd⟩
instance:Ty lk 437 true 2 32 (.agg #[.int .i64 0, .slice none 0 0]):=⟨Jd,Jb⟩
instance:Zr lk 437 [.int .i64 0, .slice none 0 0]:=⟨_,_,_,_,inferInstance,rfl⟩
instance:lX lk 437 0 0 1:=⟨Jd,Z9⟩
instance:lX lk 437 1 1 1:=⟨Jd,Z9⟩
instance:WT lk 437 (.agg #[.int .i64 0, .slice none 0 0]) [(0,1),(1,1)]:=⟨Jd⟩
instance:cG lk 15:=⟨Jd⟩
instance:cG lk 16:=⟨Jd⟩
instance:cG lk 23:=⟨Jd⟩
instance:cG lk 26:=⟨Jd⟩
instance:cG lk 27:=⟨Jd⟩
instance:cG lk 29:=⟨Jd⟩
instance:cG lk 36:=⟨Jd⟩
instance:cG lk 37:=⟨Jd⟩
instance:cG lk 38:=⟨Jd⟩
instance:cG lk 39:=⟨Jd⟩
instance:cG lk 48:=⟨Jd⟩
instance:cG lk 57:=⟨Jd⟩
instance:cG lk 58:=⟨Jd⟩
instance:cG lk 59:=⟨Jd⟩
instance:cG lk 60:=⟨Jd⟩
instance:cG lk 61:=⟨Jd⟩
instance:cG lk 62:=⟨Jd⟩
instance:cG lk 63:=⟨Jd⟩
instance:cG lk 64:=⟨Jd⟩
instance:cG lk 65:=⟨Jd⟩
instance:cG lk 66:=⟨Jd⟩
instance:cG lk 67:=⟨Jd⟩
instance:cG lk 68:=⟨Jd⟩
instance:cG lk 69:=⟨Jd⟩
instance:cG lk 70:=⟨Jd⟩
instance:cG lk 72:=⟨Jd⟩
instance:cG lk 73:=⟨Jd⟩
instance:cG lk 78:=⟨Jd⟩
instance:cG lk 79:=⟨Jd⟩
instance:cG lk 85:=⟨Jd⟩
instance:cG lk 101:=⟨Jd⟩
instance:cG lk 102:=⟨Jd⟩
instance:cG lk 103:=⟨Jd⟩
instance:cG lk 104:=⟨Jd⟩
instance:cG lk 110:=⟨Jd⟩
instance:cG lk 111:=⟨Jd⟩
instance:cG lk 112:=⟨Jd⟩
instance:cG lk 127:=⟨Jd⟩
instance:cG lk 128:=⟨Jd⟩
instance:cG lk 129:=⟨Jd⟩
instance:cG lk 130:=⟨Jd⟩
instance:cG lk 131:=⟨Jd⟩
instance:cG lk 132:=⟨Jd⟩
instance:cG lk 133:=⟨Jd⟩
instance:cG lk 134:=⟨Jd⟩
instance:cG lk 135:=⟨Jd⟩
instance:cG lk 136:=⟨Jd⟩
instance:cG lk 137:=⟨Jd⟩
instance:cG lk 138:=⟨Jd⟩
instance:cG lk 139:=⟨Jd⟩
instance:cG lk 140:=⟨Jd⟩
instance:cG lk 141:=⟨Jd⟩
instance:cG lk 142:=⟨Jd⟩
instance:cG lk 143:=⟨Jd⟩
instance:cG lk 144:=⟨Jd⟩
instance:cG lk 145:=⟨Jd⟩
instance:cG lk 146:=⟨Jd⟩
instance:cG lk 147:=⟨Jd⟩
instance:cG lk 148:=⟨Jd⟩
instance:cG lk 149:=⟨Jd⟩
instance:cG lk 150:=⟨Jd⟩
instance:cG lk 151:=⟨Jd⟩
instance:cG lk 152:=⟨Jd⟩
instance:cG lk 153:=⟨Jd⟩
instance:cG lk 154:=⟨Jd⟩
instance:cG lk 155:=⟨Jd⟩
instance:cG lk 157:=⟨Jd⟩
instance:cG lk 159:=⟨Jd⟩
instance:cG lk 160:=⟨Jd⟩
instance:cG lk 161:=⟨Jd⟩
instance:cG lk 163:=⟨Jd⟩
instance:cG lk 164:=⟨Jd⟩
instance:cG lk 173:=⟨Jd⟩
instance:cG lk 174:=⟨Jd⟩
instance:cG lk 178:=⟨Jd⟩
instance:cG lk 179:=⟨Jd⟩
instance:cG lk 180:=⟨Jd⟩
instance:cG lk 192:=⟨Jd⟩
instance:cG lk 193:=⟨Jd⟩
instance:cG lk 194:=⟨Jd⟩
instance:cG lk 195:=⟨Jd⟩
instance:cG lk 196:=⟨Jd⟩
instance:cG lk 197:=⟨Jd⟩
instance:cG lk 198:=⟨Jd⟩
instance:cG lk 199:=⟨Jd⟩
instance:cG lk 200:=⟨Jd⟩
instance:cG lk 201:=⟨Jd⟩
instance:cG lk 202:=⟨Jd⟩
instance:cG lk 203:=⟨Jd⟩
instance:cG lk 204:=⟨Jd⟩
instance:cG lk 205:=⟨Jd⟩
instance:cG lk 206:=⟨Jd⟩
instance:cG lk 209:=⟨Jd⟩
instance:cG lk 210:=⟨Jd⟩
instance:cG lk 211:=⟨Jd⟩
instance:cG lk 212:=⟨Jd⟩
instance:cG lk 213:=⟨Jd⟩
instance:cG lk 214:=⟨Jd⟩
instance:cG lk 215:=⟨Jd⟩
instance:cG lk 216:=⟨Jd⟩
instance:cG lk 217:=⟨Jd⟩
instance:cG lk 218:=⟨Jd⟩
instance:cG lk 219:=⟨Jd⟩
instance:cG lk 220:=⟨Jd⟩
instance:cG lk 221:=⟨Jd⟩
instance:cG lk 222:=⟨Jd⟩
instance:cG lk 223:=⟨Jd⟩
instance:cG lk 224:=⟨Jd⟩
instance:cG lk 225:=⟨Jd⟩
instance:cG lk 226:=⟨Jd⟩
instance:cG lk 227:=⟨Jd⟩
instance:cG lk 229:=⟨Jd⟩
instance:cG lk 238:=⟨Jd⟩
instance:cG lk 243:=⟨Jd⟩
instance:cG lk 245:=⟨Jd⟩
instance:cG lk 246:=⟨Jd⟩
instance:cG lk 247:=⟨Jd⟩
instance:cG lk 248:=⟨Jd⟩
instance:cG lk 249:=⟨Jd⟩
instance:cG lk 250:=⟨Jd⟩
instance:cG lk 251:=⟨Jd⟩
instance:cG lk 252:=⟨Jd⟩
instance:cG lk 253:=⟨Jd⟩
instance:cG lk 255:=⟨Jd⟩
instance:cG lk 258:=⟨Jd⟩
instance:cG lk 259:=⟨Jd⟩
instance:cG lk 260:=⟨Jd⟩
instance:cG lk 264:=⟨Jd⟩
instance:cG lk 265:=⟨Jd⟩
instance:cG lk 266:=⟨Jd⟩
instance:cG lk 268:=⟨Jd⟩
instance:cG lk 295:=⟨Jd⟩
instance:cG lk 296:=⟨Jd⟩
instance:cG lk 303:=⟨Jd⟩
instance:cG lk 304:=⟨Jd⟩
instance:cG lk 305:=⟨Jd⟩
instance:cG lk 306:=⟨Jd⟩
instance:cG lk 307:=⟨Jd⟩
instance:cG lk 308:=⟨Jd⟩
instance:cG lk 312:=⟨Jd⟩
instance:cG lk 313:=⟨Jd⟩
instance:cG lk 314:=⟨Jd⟩
instance:cG lk 315:=⟨Jd⟩
instance:cG lk 316:=⟨Jd⟩
instance:cG lk 338:=⟨Jd⟩
instance:cG lk 339:=⟨Jd⟩
instance:cG lk 340:=⟨Jd⟩
instance:cG lk 349:=⟨Jd⟩
instance:cG lk 350:=⟨Jd⟩
instance:cG lk 351:=⟨Jd⟩
instance:cG lk 352:=⟨Jd⟩
instance:cG lk 353:=⟨Jd⟩
instance:cG lk 354:=⟨Jd⟩
instance:cG lk 356:=⟨Jd⟩
instance:cG lk 357:=⟨Jd⟩
instance:cG lk 358:=⟨Jd⟩
instance:cG lk 359:=⟨Jd⟩
instance:cG lk 360:=⟨Jd⟩
instance:cG lk 362:=⟨Jd⟩
instance:cG lk 363:=⟨Jd⟩
instance:cG lk 380:=⟨Jd⟩
instance:cG lk 381:=⟨Jd⟩
instance:cG lk 382:=⟨Jd⟩
end sl
namespace sl
open Go.RowKit bO
section
variable {P:Program} {n:Nat} {F:eE} {H R:List Ent} {o:Oper} {x y z:Operand} {v u z':Value} {T S:TypeId}
theorem View.front {S R:List Ent} {e sz c:Nat} {q:Option Addr} {α:Type} {f:α→List Value} {xs ts:List α} (p:bQ (sl.own (jw q c c) e sz c (flat f (xs++ts))) S R) (hf: ∀ y,(f y).length=sz) (hc:c=(xs++ts).length):View S (sl sz (.slice q xs.length c) (xs.map f)):=by
 have h0 := View.own p hf hc;refine ⟨rfl, fun w hw => ?_, fun b hb => ⟨_, p.mem, by
  have h2 := hb.2;cases q <;> exact h2⟩⟩
 have h1:=aqJ (h0.holds w hw) (m:=xs.length) Ja;rwa [List.take_left' rfl] at h1
theorem qU {α:Type} (f:α→List Value) (xs ys:List α):flat f (xs++ys)=flat f xs++flat f ys:=by simp [flat]
theorem sN {t e sz by' N c m:Nat} {agg:Bool} {q:Option Addr} {k:IntKind} {j:Int} [ht:pD P t e] [hs:Ty P e agg sz by' z'] (ho:o.op= .slice t x none (some y) none) (hx:ev F x=some (.slice q N c)) (hy:ev F y=some (.int k j)) (hj:j=(m:Int)) (hm:m≤c):Qt P n o F H (.slice q m c):=fun a w ha hw=>by
 subst hj;have he:P.elem t=e:=by simp [Program.elem,ht.h]
 have hu:P.underlying t=some (.slice (P.elem t)):=by rw[he];exact ht.h
 have h1:=run_slice_h (P:=P) w t q N c hu k (m:Int) Z8 Z8;rw[he,eH hs] at h1;have hv:sliced q 0 ((m:Int)).toNat c sz= .slice q m c:=by
  simp [sliced,Addr.add]
 simp only[aa,hv] at h1;simp only[execOp,ho,ej,eo,ha.eval hx,ha.eval hy,ab,ah,run_sliceAt_slice w t _ _ _ _ hu,h1,aa]
theorem AR {t e m c m' c':Nat} {q:Option Addr} {T':TypeId} [ht:pD P t e] (ho:o.op= .binOp .eql t x y T') (hx:ev F x=some (.slice q m c)) (hy:ev F y=some (.slice none m' c')):Qt P n o F H (.bool q.isNone):=fun a w ha hw=>by
 have h:=Lib.run_eql_slice_nil (P:=P) w t e q m c m' c' ht.h;simp [execOp,ho,ha.eval hx,ha.eval hy,eqGuard,h]
def agV (P:Program) (s:TypeId) (f:Nat):Option Nat:=
 match P.underlying s with
 |some (.struct fs)=>match fs[f]? with
  |some d=>match P.underlying d.type with
   |some e=>if acF e=true then none else some d.offset
   |none=>none
  |none=>none
 |_=>none
theorem aCI {f off:Nat} {us:List Value} (ho:o.op= .field T x f) (hf:agV P T f=some off) (hx:ev F x=some (.agg us.toArray)) (hu:us[off]? =some v):Qt P n o F H v:=fun a w ha hw=>by
 unfold agV at hf;split at hf
 ·rename_i fs hs;split at hf
  ·rename_i d hd;split at hf
   ·rename_i e he;split at hf
    ·cases hf
    ·rename_i zw;have zy:d.offset=off:=by cases hf;rfl
     subst zy;have zx:(isAgg d.type).run P w= .ok false w:=by
      simp only[isAgg,ab,run_underlying he,aa];cases e<;>first|rfl|exact absurd rfl zw
     simp only[execOp,ho,ha.eval hx,Instr.field,ab,run_underlying hs,aa,hd,asAgg,ah,part,zx];simp [hu]
   ·cases hf
  ·cases hf
 ·cases hf
theorem auS {t e sz by':Nat} {agg:Bool} [ht:pD P t e] [hs:Ty P e agg sz by' z'] (ho:o.op= .buildSlice t 0 #[]):cN P n o F H fun u H'=> ∃ g,u= .slice (some ⟨g,0,none⟩) 0 0∧H'=own (.slice (some ⟨g,0,none⟩) 0 0) e sz 0 []::H:=fun Q a w next ha hw hn=>by
 have zy:(Instr.buildSlice t 0 ((#[]:Array (Nat×Operand)).map fun (i,x)=>(i,a.eval x))).run P w= .ok (.slice (some ⟨w.heap.size,0,none⟩) 0 0) (w.alloc (.cells #[] e)):=by
  have e0: ∀ g:Nat→Value,Instr.fill (fun i=>some (i*sz,sz)) (Array.map g (jx 0)) []=some #[]:=fun g=>by simp [Instr.fill]
  simp [Instr.buildSlice,ab,run_underlying ht.h,aa,eH hs];rw[e0];rfl
 unfold bj;simp only[execOp,ho,ab,zy,aa,ah,bf];refine hn _ _ _ ⟨w.heap.size,rfl,rfl⟩ (aG.new hw (fZ w (.cells #[] e)) ⟨Ja, .inr ⟨w.heap.size,0, #[],rfl,fe _,heap_alloc_new _ _,df _,fe _,Ja,Ja⟩⟩ fun b hb=> ?_);have:w.heap.size=b:=a7 hb;omega
theorem auT {f:FuncId} {args:List Value} {H:List Ent} {Rs:Value→List Ent→Prop} {sz m c:Nat} {q:Option Addr} {rows:List (List Value)} (k0:q=none→c=0→rows=[]→Ct P f args (sl sz (.slice q m c) rows::H) Rs) (k1:(∃ ad,q=some ad)→Ct P f args (sl sz (.slice q m c) rows::H) Rs):Ct P f args (sl sz (.slice q m c) rows::H) Rs:=
 ⟨fun Fr w hw => by
  cases q with
  |some ad=>exact (k1 ⟨ad,rfl⟩).go Fr w hw
  |none=>
   have h:bX w sz (.slice none m c) rows:=hw.head;rcases h with⟨h0,h1|⟨a,cap,h1⟩⟩|⟨b,off,cap,h1,_⟩
   ·cases h1;exact (k0 rfl rfl h0).go Fr w hw
   ·cases h1
   ·cases h1⟩
end
end sl
namespace sl
end sl
namespace sl
open Go.RowKit bO
section
variable {P:Program} {n:Nat} {F:eE} {H R:List Ent} {o:Oper} {x y z:Operand} {v u z':Value} {T:TypeId}
theorem pG {f:FuncId} [hc:cG P f] {x:Operand} {first cap:List Value} {args:List Operand} {ts:Array TypeId} {vs ws:List Value} {C S:List Ent} {Rs:Value→List Ent→Prop} [hX:Xcl Rs] (ho:o.op= .call { callee:= .value x,args:=args.toArray,argTypes:=ts }) (hx:ev F x=some (.func (.func f) first.toArray cap.toArray)) (hv:WZ F args=some vs) (hs:Ct P f ws C Rs) (hw:first++vs++cap=ws) (p:Lp C H S):cN P n o F H fun v H'=> ∃ H1,Rs v H1∧H'=H1++S:=fun Q a w next ha zy hn=>by
 subst hw;have he:=nL ha hv;have e1:args.toArray.map a.eval=vs.toArray:=by simpa using he
 have e2:first.toArray++vs.toArray++cap.toArray=(first++vs++cap).toArray:=Ja
 unfold bj;simp only[execOp,ho,resolve,Deferred.ofValue,ha.eval hx,invoke,e1,e2,ab,ah,aa,lP,bf];refine (hs.go _ w (p.ok zy)).mono ?_;rintro e w' ⟨v,H1,rfl,h1,h2⟩;exact hn v _ w' ⟨H1,h1,rfl⟩ (p.back zy (hX.h v H1 h1) h2)
theorem eF {f:FuncId} [hc:cG P f] {x:Operand} {first cap:List Value} {args:List Operand} {ts:Array TypeId} {vs ws:List Value} {C S:List Ent} {u:Value} (ho:o.op= .call { callee:= .value x,args:=args.toArray,argTypes:=ts }) (hx:ev F x=some (.func (.func f) first.toArray cap.toArray)) (hv:WZ F args=some vs) (hs:Ct P f ws C fun v H'=>v=u∧H'=[]) (hw:first++vs++cap=ws) (p:Lp C H S):cN P n o F H fun v H'=>v=u∧H'=S:=fun Q a w next ha zy hn=>
 pG ho hx hv hs hw p Q a w next ha zy fun v H' w' ⟨H1,⟨h1,h2⟩,h3⟩ zy=>hn v H' w' ⟨h1,by rw[h3,h2];rfl⟩ zy
end
end sl
namespace sl
end sl
namespace lens
open Go.RowKit bO
def pF (w:Int):List Value:=[gh .i64 w]
def wt (x:Int):Nat:=if 0<x then 2^(15-x.toNat) else 0
def jR:List Int→Nat
 |[]=>0
 |x::l=>wt x+jR l
def jB:List Int→Bool
 |[]=>false
 |x::l=>if x<0∨15<x then true else jB l
def eM (l:List Int):Nat:=if 320<l.length then 2 else if jB l=true then 1 else 0
def dD (l:List Int):Nat:=if eM l≠0 then eM l else if 32768<jR l then 6 else 0
theorem aaL (a b:List Int):jR (a++b)=jR a+jR b:=by
 induction a with
 |nil=>simp [jR]
 |cons x a ih=>rw[dw,jR,jR,ih,b9]
theorem amU {l:List Int} {k:Nat} {x:Int} (hp:l[k]? =some x):jR (l.take (k+1))=jR (l.take k)+wt x:=by
 rw[take_one hp,aaL];rfl
theorem aPH (x:Int):wt x≤16384:=by
 unfold wt;split
 ·rename_i h;have h1:15-x.toNat≤14:=Z8
  exact Nat.pow_le_pow_right (n:=2) Z9 h1
 ·omega
theorem xS (a b:List Int):jB (a++b)=(jB a||jB b):=by
 induction a with
 |nil=>simp [jB]
 |cons x a ih=>
  rw[dw,jB,jB,ih];split<;>simp
theorem KH {l:List Int} {k:Nat} {w:Int} (hp:l[k]? =some w) (h0:jB (l.take k)=false) (hw: ¬ (w<0∨15<w)):jB (l.take (k+1))=false:=by
 rw[take_one hp,xS,h0,jB,Jf hw];rfl
theorem FX {l:List Int} {k:Nat} {w:Int} (hp:l[k]? =some w) (hw:w<0∨15<w):jB l=true:=by
 have e1:l=l.take k++w::l.drop (k+1):=by
  rw[←(aj.1 hp).2, ←bh,gl]
 rw[e1,xS,jB,Jg hw,Bool.or_true]
theorem uJ {l:List Int} (h:jB l=false) {w:Int} (hw:w∈l):0≤w∧w≤15:=by
 induction l with
 |nil=>cases hw
 |cons x l ih=>
  unfold jB at h;split at h
  ·cases h
  ·rcases al.1 hw with rfl|hw
   ·omega
   ·exact ih h hw
def uK (l:List Int):Nat:=if eM l=0 then jR l else 0
theorem SD (v:Value) (xs:List Int) (W:World) (hs:bX W 1 v (xs.map pF)) (hg: ∀ x∈xs,(kg .i64 x).wf=true) (hn:xs.length≤1000000000000000):
  Calls lk 344 #[v] W fun e w'=>e= .returned (.tuple #[.int .i64 (uK xs:Int), .int .i64 (eM xs:Int)])∧W=w':=by
 obtain⟨q,cap,b,off,rfl,hq,hc⟩:=hs.view;simp only[gp] at hq ⊢;have HQ:=Lib.hid hq;have HC:Hid (∀ k x,xs[k]? =some x→W.cell? ⟨b,off+k,none⟩=some (.int .i64 x)):=fun k p hx=>by
  have:=hc k _ ZL 0 _ rfl;simpa [gy] using this
 clear hs hq hc;by_cases hbig:(320:Int)<(xs.length:Int)
 ·have hE:eM xs=2:=by rw[eM,Jg Z8]
  have hF:uK xs=0:=by rw[uK,Jf Zt]
  rw[hF,hE]
  go_enter Tryz.func344,Tryz.ntmps344
  go_wp2_with (fail)
  go_ret2
  exact⟨rfl,rfl⟩
 ·have hn3:xs.length≤320:=Z8
  go_enter Tryz.func344,Tryz.ntmps344
  go_wp2_with (fail)
  go_loopw [4,12] (fun z y wr=> ∃ k n:Nat,k≤xs.length∧z= .int .i64 n∧y= .int .i64 k∧Hid (jB (xs.take k)=false)∧Hid (n=jR (xs.take k))∧n≤16384*k∧W=wr) (fun _ y _=>xs.length-(intOf y).toNat)
  case atStart=>exact⟨0,0,fe _,rfl,rfl,rfl,rfl,df _,rfl⟩
  case round=>
   obtain⟨k,n,hk,rfl,rfl,hfe,hfn,hnk,rfl⟩:=hrel;by_cases hlt:k<xs.length
   ·obtain⟨rfl,hblk⟩:=HQ.out k hlt;obtain⟨x,hp⟩: ∃ p,xs[k]? =some p:=⟨_,ak hlt⟩;have hc0:=HC.out k _ hp;have hltI:(k:Int)<(xs.length:Int):=Z8
    have hp2:=IV (hg _ (jg hp));have HP:=Lib.hid hp;clear hp;by_cases hneg:x<0
    ·have hE:eM xs=1:=by rw[eM,Jf Z8,Jg (FX HP.out (.inl hneg))]
     have hF:uK xs=0:=by rw[uK,Jf Zt]
     go_wp2_with (fail)
     go_ret2
     exact⟨rfl,rfl⟩
    ·by_cases hbig:15<x
     ·have hE:eM xs=1:=by rw[eM,Jf Z8,Jg (FX HP.out (.inr hbig))]
      have hF:uK xs=0:=by rw[uK,Jf Zt]
      go_wp2_with (fail)
      go_ret2
      exact⟨rfl,rfl⟩
     ·have HE:=Lib.hid (KH HP.out hfe.out Z8);obtain⟨m,hm⟩: ∃ m,m=n+wt x:=⟨_,rfl⟩;have HN:Hid (m=jR (xs.take (k+1))):=by show m=_;rw[amU HP.out, ←hfn.out];exact hm
      have hmk:m≤16384*(k+1):=by have:=aPH x;omega
      by_cases h0:0<x
      ·obtain⟨w,rfl⟩: ∃ w:Nat,x=(w:Int):=⟨x.toNat,Z8⟩;have hws:(15:Int)-(w:Int)=((15-w:Nat):Int):=Z8
       have hwt:wt (w:Int)=2^(15-w):=by unfold wt;rw[Jg h0];rfl
       have hmI:(n:Int)+2^(15-w)=(m:Int):=by rw[hm,hwt];simp
       have hp14:(2:Int)^(15-w)≤16384:=by have:=aPH (w:Int);rw[hwt] at this;exact_mod_cast this
       clear hm hwt
       go_wp2_with (fail)
       exact⟨⟨k+1,m,Z8,rfl,rfl,HE,HN,hmk,trivial⟩,by show xs.length-(((k:Int)+1).toNat)<xs.length-((k:Int).toNat);omega⟩
      ·have hwt:wt x=0:=by unfold wt;rw[Jf h0]
       rw[hwt,fl] at hm;subst hm
       go_wp2_with (fail)
       exact⟨⟨k+1,m,Z8,rfl,rfl,HE,HN,hmk,trivial⟩,by show xs.length-(((k:Int)+1).toNat)<xs.length-((k:Int).toNat);omega⟩
   ·have hke:k=xs.length:=Z8
    subst hke;rw[List.take_length] at hfe hfn;have hE:eM xs=0:=by rw[eM,Jf Z8,Jf (by rw[hfe.out];decide)]
    have hF:uK xs=n:=by rw[uK,Jg hE,hfn.out]
    go_wp2_with (fail)
    go_ret2
    exact⟨by rw[hF,hE];rfl,rfl⟩
end lens
namespace bO
end bO
namespace sl
open Go.RowKit bO
def aLP (P:Program) (ops:Array Oper) (Q:fW) (n m:Nat) (L:Array Bool) (F:eE) (H:List Ent):Prop:= ∀ a w,Ok F n a→aG H w→wpAny P .any ops (calm Q) m L a w
def aEM (ops:Array Oper) (L:Array Bool) (i:Nat):Bool:=j7 ops&&kv .any ops L i&&(ax .any ops L).contains i
section
variable {P:Program} {ops:Array Oper} {Q:fW} {n m:Nat} {L:Array Bool} {F:eE} {H:List Ent}
theorem zM {id:Nat} {l:List Oper} (hm:P.follows .mixedOrders=true) (hl:l.length=m) (h:aLP P l.toArray Q n m (fh m false) F H):dG P Q n (.region id l.toArray true) F H:=fun a w ha hw=>by
 subst hl;have h2:=h a _ ha hw.drew;refine wp_mono (wp_region_any hm (Q:=calm Q) (by simpa using h2)) ?_;intro e a w hq;cases e<;>first|exact hq|exact hq.elim
theorem awG (w:World):aG [] w:=⟨fun e he=>absurd he ck,ft⟩
theorem aK (i:Nat) {d:Nat} {op:Op} {ty:TypeId} {ps:String} {af:Array Edge} {g:Option (Nat×Bool)} {v:Value} (hi:ops[i]? =some ⟨some d,op,ty,ps,af,g⟩) (hg:mV ops F ⟨some d,op,ty,ps,af,g⟩) (hb:aEM ops L i=true) (hd:ao d n=true) (hq:Qt P n ⟨some d,op,ty,ps,af,g⟩ F [] v) (h:aLP P ops Q n m (L.setIfInBounds i true) ((d,v)::F) H):aLP P ops Q n (m+1) L F H:=fun a w ha hw=>by
 simp only[aEM,ir] at hb;obtain⟨⟨h1,h2⟩,h3⟩:=hb;exact wpAny_take hi h1 h2 h3 (fun c a w h=>h) (.inl ⟨hg.wanted ha,fun w=>hq a w ha (awG w)⟩) (h _ w (ha.put (d:=some d) hd) hw)
theorem zN {Hq:List Ent} {nk:List Nat} {r i:Nat} (h:dM P ops Q n Hq nk r i m L F H):aLP P ops Q n m L F H:=fun a w ha hw=>OE.any _ _ _ _ (h a w ha hw)
theorem gO {x y:Operand} {o:Oper} {z':Value} {t e sz i mm cc by' g:Nat} {k:IntKind} {agg:Bool} [ht:pD P t e] [hs:Ty P e agg sz by' z'] (ho:o.op= .indexAddr t x y) (hx:ev F x=some (.slice (some ⟨g,0,none⟩) mm cc)) (hy:ev F y=some (.int k (i:Int))) (hi:i<mm):Qt P n o F H (bJ (.slice (some ⟨g,0,none⟩) mm cc) i sz 0):=fun a w ha hw=>by
 simp only[execOp,ho,ha.eval hx,ha.eval hy,ab,ah,aa,IW (P:=P) (t:=t) hi,bJ,sF,fl]
theorem lL {c:Code} {R:List Ent} {q:Option Addr} {e sz mm cp:Nat} {xs:List Value} (p:bQ (own (.slice q mm cp) e sz mm xs) H R) (hm:0<mm) (k: ∀ g,q=some ⟨g,0,none⟩→mm≤cp→dG P Q n c F H):dG P Q n c F H:=fun a w ha hw=>by
 have hb:w.ownsRow 0 e sz (.slice q mm cp) mm xs:=(hw.perm p.perm).head;rcases hb.2 with⟨h,h0⟩|⟨g,cap,cur,h,_,_,h2,_⟩
 ·omega
 ·cases h;exact k g rfl h2 a w ha hw
end
end sl
namespace srt
variable {α:Type}
class Key (α:Type) where
 k:α→Int
section
variable [Key α]
def kf (x:α):Int:=Key.k x
def rS (l:List α):Prop:=l.Pairwise fun a b=>kf a≤kf b
def Seq (a b:List α):Prop:= ∀ k:Int,a.filter (fun x=>kf x==k)=b.filter (fun x=>kf x==k)
theorem Seq.refl (a:List α):Seq a a:=fun _=>rfl
theorem Seq.symm {a b:List α} (h:Seq a b):Seq b a:=fun k=>(h k).symm
theorem Seq.trans {a b c:List α} (h:Seq a b) (g:Seq b c):Seq a c:=fun k=>(h k).trans (g k)
theorem Seq.app {a b c d:List α} (h:Seq a b) (g:Seq c d):Seq (a++c) (b++d):=fun k=>by rw[fo,fo,h k,g k]
theorem Seq.mem {a b:List α} (h:Seq a b) {x:α} (hx:x∈a):x∈b:=by
 have h1:x∈a.filter (fun y=>kf y==kf x):=iw.2 ⟨hx,beq_self_eq_true _⟩;rw[h (kf x)] at h1;exact (iw.1 h1).1
theorem Seq.len {a b:List α} (h:Seq a b):a.length=b.length:=by
 have: ∀ (n:Nat) (a b:List α),a.length=n→Seq a b→a.length=b.length:=by
  intro n;induction n using j6 with
  |_ n ih=>
   intro a b hn h;cases a with
   |nil=>
    cases b with
    |nil=>rfl
    |cons y b=>exact absurd (h.symm.mem bu) ck
   |cons x a=>
    have split: ∀ l:List α,l.length=(l.filter (fun y=>kf y==kf x)).length+(l.filter (fun y=> !(kf y==kf x))).length:=fun l=>by
     induction l with
     |nil=>rfl
     |cons y l ihl=>
      by_cases hy:(kf y==kf x)=true
      ·rw[bw,bw,hy];simp only[ko,if_true,fm,if_false,dv];omega
      ·have zy:(kf y==kf x)=false:=by simpa using hy
       rw[bw,bw,zy];simp only[fp,if_true,fm,if_false,dv];omega
    have hS:Seq ((x::a).filter (fun y=> !(kf y==kf x))) (b.filter (fun y=> !(kf y==kf x))):=fun k=>by
     rw[js,js];have e: ∀ l:List α,l.filter (fun y=>(kf y==k)&& !(kf y==kf x))=if k=kf x then [] else l.filter (fun y=>kf y==k):=fun l=>by
      split
      ·rename_i hk;rw[iy];intro y _;rw[hk];cases (kf y==kf x)<;>simp
      ·rename_i hk;refine List.filter_congr fun y _=> ?_
       by_cases h1:kf y=k
       ·have: ¬ kf y=kf x:=fun h2=>hk (h1 ▸ h2)
        simp [h1,hk]
       ·simp [h1]
     rw[e,e,h k]
    have hlt:((x::a).filter (fun y=> !(kf y==kf x))).length<n:=by
     have:=split (x::a);have h2:0<((x::a).filter (fun y=>kf y==kf x)).length:=Ja
     omega
    have:=ih _ hlt _ _ rfl hS;rw[split (x::a),split b,h (kf x),this]
 exact this _ a b rfl h
theorem aEN: ∀ {a b:List α},rS a→rS b→Seq a b→a=b:=by
 intro a;induction a with
 |nil=>
  intro b _ _ h;have:=h.len;exact (bp this.symm).symm
 |cons x a ih=>
  intro b ha hb h;have zy:=an.1 ha;cases b with
  |nil=>exact absurd (h.mem bu) ck
  |cons y b=>
   have zx:=an.1 hb;have zw:kf x=kf y:=by
    have h1:kf y≤kf x:=by
     rcases al.1 (h.mem bu) with e|e
     ·rw[e];exact jy _
     ·exact zx.1 x e
    have h2:kf x≤kf y:=by
     rcases al.1 (h.symm.mem bu) with e|e
     ·rw[e];exact jy _
     ·exact zy.1 y e
    omega
   have hk:=h (kf x);rw[bw,bw,Jg (beq_self_eq_true _),Jg (by rw[zw];exact beq_self_eq_true _)] at hk;simp only[List.cons.injEq] at hk;obtain⟨rfl,hk⟩:=hk;congr 1;refine ih zy.2 zx.2 fun k=> ?_
   by_cases e:k=kf x
   ·rw[e];exact hk
   ·have h3:=h k;rw[bw,bw] at h3;have:(kf x==k)=false:=by simpa using fun e2=>e e2.symm
    rw[this] at h3;simpa using h3
def ins (x:α):List α→List α
 |[]=>[x]
 |y::l=>if kf x≤kf y then x::y::l else y::ins x l
def aR:List α→List α
 |[]=>[]
 |x::l=>ins x (aR l)
theorem arJ {x y:α}: ∀ {l:List α},y∈ins x l↔y=x∨y∈l
 |[]=>by simp [ins]
 |z::l=>by
  rw[ins];split
  ·simp
  ·rw[al,arJ,al];constructor
   ·rintro (h|h|h)
    ·exact .inr (.inl h)
    ·exact .inl h
    ·exact .inr (.inr h)
   ·rintro (h|h|h)
    ·exact .inr (.inl h)
    ·exact .inl h
    ·exact .inr (.inr h)
theorem arK {x:α}: ∀ {l:List α},rS l→rS (ins x l)
 |[],_=>by simp [ins,rS]
 |y::l,h=>by
  have h':=an.1 h;rw[ins];split
  ·rename_i hx;refine an.2 ⟨fun z hz=> ?_,h⟩;rcases al.1 hz with rfl|hz
   ·exact hx
   ·exact Int.le_trans hx (h'.1 z hz)
  ·rename_i hx;refine an.2 ⟨fun z hz=> ?_,arK h'.2⟩;rcases arJ.1 hz with rfl|hz
   ·omega
   ·exact h'.1 z hz
theorem arL {x:α}: ∀ {l:List α},Seq (ins x l) (x::l)
 |[]=>Seq.refl _
 |y::l=>by
  rw[ins];split
  ·exact Seq.refl _
  ·rename_i hx;intro k;have h1:=arL (x:=x) (l:=l) k;simp only[bw] at h1 ⊢;rw[h1];by_cases hxk:(kf x==k)=true
   ·by_cases xW:(kf y==k)=true
    ·simp only[beq_iff_eq] at hxk xW;omega
    ·simp [hxk,xW]
   ·simp [hxk]
theorem kK: ∀ l:List α,rS (aR l)
 |[]=>ft
 |x::l=>arK (kK l)
theorem kL: ∀ l:List α,Seq (aR l) l
 |[]=>Seq.refl _
 |x::l=>arL.trans (Seq.app (Seq.refl [x]) (kL l))
theorem fJ (l:List α):(aR l).length=l.length:=(kL l).len
theorem nD {l:List α} {x:α}:x∈aR l↔x∈l:=⟨(kL l).mem,(kL l).symm.mem⟩
theorem GK {a l:List α} (h:rS a) (g:Seq a l):a=aR l:=aEN h (kK l) (g.trans (kL l).symm)
theorem dA {l:List α} (h:rS l):aR l=l:=(GK h (Seq.refl l)).symm
theorem KO (a b:List α):aR (aR a++aR b)=aR (a++b):=GK (kK _) ((kL _).trans (Seq.app (kL a) (kL b)))
theorem TS {a b:List α} (h: ∀ x∈a, ∀ y∈b,kf x≠kf y):Seq (a++b) (b++a):=fun k=>by
 rw[fo,fo];by_cases h1:a.filter (fun x=>kf x==k)=[]
 ·rw[h1];simp
 ·have h2:b.filter (fun x=>kf x==k)=[]:=by
   rw[iy];intro y hy xW;obtain⟨x,hx⟩:=List.exists_mem_of_ne_nil _ h1;obtain⟨zy,zx⟩:=iw.1 hx;exact h x zy y hy (by simp only[beq_iff_eq] at zx xW;omega)
  rw[h2];simp
theorem qJ {a b:List α}:rS (a++b)↔rS a∧rS b∧ ∀ x∈a, ∀ y∈b,kf x≤kf y:=cu
theorem aaY {a b:List α} {x:α} (ha:rS (a++b)) (h1: ∀ y∈a,kf y≤kf x) (h2: ∀ y∈b,kf x<kf y):a++x::b=aR (a++b++[x]):=by
 obtain⟨g1,g2,g3⟩:=qJ.1 ha;refine GK (qJ.2 ⟨g1,an.2 ⟨fun y hy=>iu (h2 y hy),g2⟩,fun y hy z hz=> ?_⟩) ?_
 ·rcases al.1 hz with rfl|hz
  ·exact h1 y hy
  ·exact g3 y hy z hz
 ·rw[fu];refine Seq.app (Seq.refl a) ?_;have:=TS (a:=[x]) (b:=b) fun y hy z hz=>by
   rw[eh.1 hy];have:=h2 z hz;omega
  exact this
theorem aEO {a b:List α} {x:α} (ha:rS (a++b)) (h1: ∀ y∈a,kf y<kf x) (h2: ∀ y∈b,kf x≤kf y):a++x::b=aR (x::(a++b)):=by
 obtain⟨g1,g2,g3⟩:=qJ.1 ha;refine GK (qJ.2 ⟨g1,an.2 ⟨h2,g2⟩,fun y hy z hz=> ?_⟩) ?_
 ·rcases al.1 hz with rfl|hz
  ·exact iu (h1 y hy)
  ·exact g3 y hy z hz
 ·have:=TS (a:=a) (b:=[x]) fun y hy z hz=>by
   rw[eh.1 hz];have:=h1 y hy;omega
  have h3:=Seq.app this (Seq.refl b);simpa using h3
theorem aEP {a1 a2 b1 b2:List α} (ha:rS (a1++a2)) (hb:rS (b1++b2)) (h1: ∀ x∈a1, ∀ y∈b2,kf x≤kf y) (h2: ∀ x∈b1, ∀ y∈a2,kf x<kf y):aR (a1++b1)++aR (a2++b2)=aR (a1++a2++(b1++b2)):=by
 obtain⟨_,_,ga⟩:=qJ.1 ha;obtain⟨_,_,gb⟩:=qJ.1 hb;refine GK (qJ.2 ⟨kK _,kK _,fun x hx y hy=> ?_⟩) ?_
 ·rw[nD,ei] at hx hy;rcases hx with hx|hx<;>rcases hy with hy|hy
  ·exact ga x hx y hy
  ·exact h1 x hx y hy
  ·exact iu (h2 x hx y hy)
  ·exact gb x hx y hy
 ·refine (Seq.app (kL _) (kL _)).trans ?_;have:=Seq.app (Seq.app (Seq.refl a1) (TS (a:=b1) (b:=a2) fun x hx y hy=>by have:=h2 x hx y hy;omega)) (Seq.refl b2);simpa using this
end
end srt
namespace nE
open Go.RowKit bO sl srt
abbrev CV:=Int×Option Addr×Nat×Nat
def fC (c:CV):List Value:=[.int .i64 c.1, .slice c.2.1 c.2.2.1 c.2.2.2]
instance:Key CV:=⟨fun c=>c.1⟩
theorem GL {α:Type} (u v:List α) (x:α) {i:Nat} (h:u.length=i):(u++x::v)[i]? =some x:=by
 rw[←h,gz (df _),ku];rfl
theorem zO {α:Type} (u v:List α) (x y:α) {i:Nat} (h:u.length=i):(u++x::v).set i y=u++y::v:=by
 rw[←h,List.set_append_right _ _ (df _),ku];rfl
theorem GM {α:Type} (u v w:List α) (x y:α) {i j:Nat} (hi:u.length=i) (hj:i+1+v.length=j):(u++x::(v++y::w))[i]? =some x∧(u++x::(v++y::w))[j]? =some y∧((u++x::(v++y::w)).set i y)[j]? =some y∧((u++x::(v++y::w)).set i y).set j x=u++y::(v++x::w)∧((u++x::(v++y::w)).set j x)[i]? =some x∧((u++x::(v++y::w)).set j x).set i y=u++y::(v++x::w):=by
 have e: ∀ z t:α,u++z::(v++t::w)=(u++z::v)++t::w:=fun z t=>Ja
 have hl: ∀ z:α,(u++z::v).length=j:=fun z=>by rw[ae,dv];omega
 refine⟨GL _ _ _ hi, ?_, ?_, ?_, ?_, ?_⟩
 ·rw[e];exact GL _ _ _ (hl x)
 ·rw[zO _ _ _ _ hi,e];exact GL _ _ _ (hl y)
 ·rw[zO _ _ _ _ hi,e,zO _ _ _ _ (hl y),e]
 ·rw[e,zO _ _ _ _ (hl x), ←e];exact GL _ _ _ hi
 ·rw[e,zO _ _ _ _ (hl x), ←e,zO _ _ _ _ hi]
def Zs {α:Type} (P X M Y S:List α) (i:Nat):List α:=P++(Y.take i++X.drop i)++M++(X.take i++Y.drop i)++S
theorem aLQ {α:Type} (P X M Y S:List α):P++X++M++Y++S=Zs P X M Y S 0:=by simp [Zs]
theorem aRG {α:Type} (P X M Y S:List α) {n:Nat} (hx:X.length=n) (hy:Y.length=n):Zs P X M Y S n=P++Y++M++X++S:=by
 unfold Zs;rw[bd (by omega:Y.length≤n),bd (by omega:X.length≤n),fv (by omega:X.length≤n),fv (by omega:Y.length≤n),ke,ke]
theorem aLR {α:Type} (P X M Y S:List α) {n i a b:Nat} {x y:α} (hx:X[i]? =some x) (hy:Y[i]? =some y) (hxl:X.length=n) (hyl:Y.length=n) (ha:P.length=a) (hb:a+n+M.length=b):(Zs P X M Y S i)[a+i]? =some x∧(Zs P X M Y S i)[b+i]? =some y∧((Zs P X M Y S i).set (a+i) y)[b+i]? =some y∧((Zs P X M Y S i).set (a+i) y).set (b+i) x=Zs P X M Y S (i+1):=by
 obtain⟨h1,h2⟩:=aj.1 hx;obtain⟨h3,h4⟩:=aj.1 hy;have ex:X.drop i=x::X.drop (i+1):=by rw[bh h1,h2]
 have ey:Y.drop i=y::Y.drop (i+1):=by rw[bh h3,h4]
 have tx:X.take (i+1)=X.take i++[x]:=by rw[ib,hx];rfl
 have ty:Y.take (i+1)=Y.take i++[y]:=by rw[ib,hy];rfl
 have e:Zs P X M Y S i=(P++Y.take i)++x::((X.drop (i+1)++M++X.take i)++y::(Y.drop (i+1)++S)):=by
  unfold Zs;rw[ex,ey];simp
 have e':Zs P X M Y S (i+1)=(P++Y.take i)++y::((X.drop (i+1)++M++X.take i)++x::(Y.drop (i+1)++S)):=by
  unfold Zs;rw[tx,ty];simp
 have h:=GM (P++Y.take i) (X.drop (i+1)++M++X.take i) (Y.drop (i+1)++S) x y (i:=a+i) (j:=b+i) (by rw[ae,ar];omega) (by rw[ae,ae,ar,bq];omega);rw[e,e'];exact⟨h.1,h.2.1,h.2.2.1,h.2.2.2.1⟩
theorem aRH {α:Type} (P X M Y S:List α) (n i:Nat) (hxl:X.length=n) (hyl:Y.length=n):(Zs P X M Y S i).length=(P++X++M++Y++S).length:=by
 unfold Zs;simp only[ae,ar,bq];omega
attribute [local irreducible] box own sl bL aH bJ Qt cN cM dG dL eQ
theorem KP (q:Option Addr) (c:Nat) (cv:Value) (P X M Y S:List CV) (n a b N:Nat) (hx:X.length=n) (hy:Y.length=n) (ha:P.length=a) (hb:a+n+M.length=b) (hN:(P++X++M++Y++S).length=N) (hN0:0<N) (hNb:N≤1000000000):
  Ct lk 363 [.slice q N c, .int .i64 (a:Int), .int .i64 (b:Int), .int .i64 (n:Int),cv] [own (.slice q N c) 437 2 N (flat fC (P++X++M++Y++S))]
   fun v H'=>v= .tuple #[]∧H'=[own (.slice q N c) 437 2 N (flat fC (P++Y++M++X++S))]:=by
 have hlen:P.length+X.length+M.length+Y.length+S.length=N:=by rw[←hN];simp only[ae]
 rw[←aRG P X M Y S hx hy,aLQ];(refine Ye Tryz.func363 Tryz.ntmps363 ?_;intro Fr);refine lL aU Z8 ?_;rintro g rfl hc;refine bM ?_;(refine aC (σ:=Nat) (fun i=>i≤n) (fun i=>[(10, .int .i64 (i:Int))]) (fun i=>[own (.slice (some ⟨g,0,none⟩) N c) 437 2 N (flat fC (Zs P X M Y S i))]) _ (fun i=>n-i) (0) Zx Ze Zb (fun i hi=> ?_);refine Da ?_);rcases ig i n with hlt|hge
 ·obtain⟨x,zy⟩: ∃ x,X[i]? =some x:=⟨_,ak Z8⟩;obtain⟨y,zx⟩: ∃ y,Y[i]? =some y:=⟨_,ak Z8⟩;obtain⟨z1,z2,z3,z4⟩:=aLR P X M Y S zy zx hx hy ha hb;have zw:(a:Int)+(i:Int)=((a+i:Nat):Int):=Z8
  have zv:(b:Int)+(i:Int)=((b+i:Nat):Int):=Z8
  have hA:a+i<N:=Z8
  have hB:b+i<N:=Z8
  have zu:=aRH P X M Y S n i hx hy;rw[hN] at zu;generalize Zs P X M Y S i=Z at*;refine kB ?_;refine zM Jd Za ?_;refine aK 0 rfl wt Je rfl (bT rfl rfl) ?_;refine aK 1 rfl wt Je rfl (bT rfl rfl) ?_;refine aK 2 rfl wt Je rfl (bT rfl rfl) ?_;refine aK 3 rfl wt Je rfl (MD rfl rfl rfl Z8) ?_;refine aK 4 rfl wt Je rfl (bT rfl rfl) ?_;refine aK 5 rfl wt Je rfl (bT rfl rfl) ?_;refine aK 6 rfl wt Je rfl (bT rfl rfl) ?_;refine aK 7 rfl wt Je rfl (MD rfl rfl rfl Z8) ?_;refine aK 8 rfl wt Je rfl (bT rfl rfl) ?_;refine aK 9 rfl wt Je rfl (bT rfl rfl) ?_;refine aK 10 rfl wt Je rfl (bT rfl rfl) ?_;refine aK 11 rfl wt Je rfl (MD rfl rfl rfl Z8) ?_;rw[zv];refine aK 12 rfl wt Je rfl (gO (i:=b+i) rfl rfl rfl hB) ?_;refine aK 14 rfl wt Je rfl (bT rfl rfl) ?_;refine aK 15 rfl wt Je rfl (bT rfl rfl) ?_;refine aK 16 rfl wt Je rfl (bT rfl rfl) ?_;refine aK 17 rfl wt Je rfl (MD rfl rfl rfl Z8) ?_;rw[zw];refine aK 18 rfl wt Je rfl (gO (i:=a+i) rfl rfl rfl hA) ?_;refine zN (Hq:=[own (.slice (some ⟨g,0,none⟩) N c) 437 2 N (flat fC Z)]) (nk:=[21,22,23]) (r:=1) (i:=0) ?_;refine jV ?_;(refine aB 21 ?_;refine Ob (l:=by exact (aI (f:=fC) (q':=y) rfl rfl rfl rfl Zk rfl Z8 Zg Jc rfl rfl Jb)) (k:= ?_);rintro _ _ ⟨rfl,rfl⟩;refine Te ?_;(try refine Da ?_));(refine aB 22 ?_;refine Oa (l:=by exact (iA (cE (i:=b+i) rfl rfl rfl aU Z8 Z8))) (k:= ?_);rintro _ _ ⟨rfl,rfl⟩;refine Te ?_;(try refine Da ?_));(refine aB 23 ?_;refine Ob (l:=by exact (aI (f:=fC) (q':=x) rfl rfl rfl rfl Zk rfl Z8 Zg Jc rfl rfl Jb)) (k:= ?_);rintro _ _ ⟨rfl,rfl⟩;refine Te ?_;(try refine Da ?_));rw[z4];refine sO ?_;refine Ee (i+1) ?_ ?_
  ·exact hlt
  ·omega
 ·have zt:i=n:=Z8
  subst zt;refine bM ?_;exact Eb (x:=⟨rfl,rfl⟩)
theorem TT (q:Option Addr) (c:Nat) (cv:Value) (P A B S:List CV) (a m b N:Nat) (ha:P.length=a) (hm:a+A.length=m) (hb:m+B.length=b) (zq:0<A.length) (zn:0<B.length) (hN:(P++A++B++S).length=N) (zy:N≤1000000000):
  Ct lk 362 [.slice q N c, .int .i64 (a:Int), .int .i64 (m:Int), .int .i64 (b:Int),cv] [own (.slice q N c) 437 2 N (flat fC (P++A++B++S))]
   fun v H'=>v= .tuple #[]∧H'=[own (.slice q N c) 437 2 N (flat fC (P++B++A++S))]:=by
 have hlen:P.length+A.length+B.length+S.length=N:=by rw[←hN];simp only[ae]
 have zx:0<N:=Z8
 have e1:(m:Int)-(a:Int)=(A.length:Int):=Z8
 have e2:(b:Int)-(m:Int)=(B.length:Int):=Z8
 rw[show P++A++B++S=P++[]++A++B++[]++S by simp];(refine Ye Tryz.func362 Tryz.ntmps362 ?_;intro Fr);refine bM ?_;rw[e1,e2];(refine aC (σ:=List CV×List CV×List CV×List CV) (fun x=>((0<x.2.1.length∧0<x.2.2.1.length)∧(a+x.1.length+x.2.1.length=m∧m+x.2.2.1.length+x.2.2.2.length=b))∧x.1++x.2.2.1++x.2.1++x.2.2.2=B++A) (fun x=>[(10, .int .i64 (x.2.1.length:Int)),(11, .int .i64 (x.2.2.1.length:Int))]) (fun x=>[own (.slice q N c) 437 2 N (flat fC (P++x.1++x.2.1++x.2.2.1++x.2.2.2++S))]) _ (fun x=>x.2.1.length+x.2.2.1.length) (([],A,B,[])) (by exact⟨⟨⟨zq,zn⟩,by dsimp only;simp only[gr];omega⟩,Ja⟩) Ze Zb (fun⟨D1,X,Y,D2⟩ ⟨⟨⟨hX,hY⟩,zw,zv⟩,hE⟩=> ?_);refine Da ?_);dsimp only at hX hY zw zv hE;have zu:(m:Int)-(X.length:Int)=((a+D1.length:Nat):Int):=Z8
 rcases Nat.lt_trichotomy X.length Y.length with g|g|g
 ·have zm:Y=Y.take (Y.length-X.length)++Y.drop (Y.length-X.length):=(gl _ _).symm;have hy1:(Y.take (Y.length-X.length)).length=Y.length-X.length:=by rw[ar];omega
  have zt:(Y.drop (Y.length-X.length)).length=X.length:=by rw[bq];omega
  generalize Y.take (Y.length-X.length)=Y1 at*;generalize Y.drop (Y.length-X.length)=Y2 at*;have hyl:Y.length=Y1.length+X.length:=Z8
  subst zm;have zl:(m:Int)+((Y1++Y2).length:Int)-(X.length:Int)=((m+Y1.length:Nat):Int):=by rw[ae];omega
  have zk:((Y1++Y2).length:Int)-(X.length:Int)=(Y1.length:Int):=by rw[ae];omega
  have SW:=KP q c cv (P++D1) X Y1 Y2 (D2++S) X.length (a+D1.length) (m+Y1.length) N rfl zt (by rw[ae,ha]) Z8 (by simp only[ae] at zv ⊢;omega) zx zy;rw[show P++D1++X++(Y1++Y2)++D2++S=P++D1++X++Y1++Y2++(D2++S) by simp];refine bM ?_;rw[zu,zl];refine aL wt rfl (bG rfl SW rfl wY) ?_;rintro _ _ ⟨_,⟨rfl,rfl⟩,rfl⟩;dsimp only[dw,dz];refine iC ?_;rw[zk, ←zt,show P++D1++Y2++Y1++X++(D2++S)=P++D1++Y2++Y1++(X++D2)++S by simp];refine Ee ((D1,Y2,Y1,X++D2)) ?_ ?_
  ·refine⟨⟨⟨by dsimp only;omega,by dsimp only;omega⟩,by dsimp only;omega, ?_⟩, ?_⟩
   ·dsimp only;rw[ae] at zv ⊢;omega
   ·rw[←hE];simp
  ·dsimp only;rw[ae];omega
 ·have SW:=KP q c cv (P++D1) X [] Y (D2++S) X.length (a+D1.length) m N rfl g.symm (by rw[ae,ha]) (by simp only[gr];omega) (by simp only[ae,gr];omega) zx zy;rw[show P++D1++X++Y++D2++S=P++D1++X++[]++Y++(D2++S) by simp];refine bM ?_;rw[zu];refine aL wt rfl (bG rfl SW rfl wY) ?_;rintro _ _ ⟨_,⟨rfl,rfl⟩,rfl⟩;dsimp only[dw,dz];rw[show P++D1++Y++[]++X++(D2++S)=P++(D1++Y++X++D2)++S by simp,hE,show P++(B++A)++S=P++B++A++S by simp];refine iC ?_;exact Eb (x:=⟨rfl,rfl⟩)
 ·have zj:X=X.take Y.length++X.drop Y.length:=(gl _ _).symm;have zr:(X.take Y.length).length=Y.length:=by rw[ar];omega
  have hx2:(X.drop Y.length).length=X.length-Y.length:=by rw[bq]
  generalize X.take Y.length=X1 at*;generalize X.drop Y.length=X2 at*;have hxl:X.length=Y.length+X2.length:=Z8
  subst zj;have zh:((X1++X2).length:Int)-(Y.length:Int)=(X2.length:Int):=by rw[ae];omega
  have SW:=KP q c cv (P++D1) X1 X2 Y (D2++S) Y.length (a+D1.length) m N zr rfl (by rw[ae,ha]) Z8 (by simp only[ae] at zw ⊢;omega) zx zy;rw[show P++D1++(X1++X2)++Y++D2++S=P++D1++X1++X2++Y++(D2++S) by simp];refine bM ?_;rw[zu];refine aL wt rfl (bG rfl SW rfl wY) ?_;rintro _ _ ⟨_,⟨rfl,rfl⟩,rfl⟩;dsimp only[dw,dz];refine iC ?_;rw[zh, ←zr,show P++D1++Y++X2++X1++(D2++S)=P++(D1++Y)++X2++X1++D2++S by simp];refine Ee ((D1++Y,X2,X1,D2)) ?_ ?_
  ·refine⟨⟨⟨by dsimp only;omega,by dsimp only;omega⟩, ?_,by dsimp only;omega⟩, ?_⟩
   ·dsimp only;rw[ae] at zw ⊢;omega
   ·rw[←hE];simp
  ·dsimp only;rw[ae];omega
end nE
namespace bO
end bO
