/- Law HandStale: its texts, packed. -/
import Derived.WalkKit
import Derived.WalkLawsBesides
import Derived.WalkSpells
import Derived.Laws.BitsAllLaws
import Derived.Lib.Hide
import Derived.Lib.BufferRead
import Derived.Lib.Strings
import Derived.Lib.IndexBytes
import Derived.RegionTactic
import Derived.Deep.QuietTactic
import Derived.Deep.RegionWith
import Derived.Deep.DeepCutAuto
import Derived.BigQuiet
import Derived.BigRegion
import Derived.Outline
import Derived.Laws.Rows
import Derived.Laws.CopyRow
import Derived.StillTailTactics
import Derived.Deep.RegionHeld3
import Derived.Deep.AppendLies
import Derived.Deep.RegionLaw
import Derived.ProofKit
import Derived.ChangeArms
import Derived.Lib.AppendZeros
open List renaming getElem?_eq_getElem->aj,getElem?_eq_some_iff->ah,getElem?_map->al,length_append->ag
open Nat renaming add_mul->an,le_refl->aq,le_trans->ae,lt_of_lt_of_le->ab,mul_one->ao,succ_mul->ak
open ByteArray renaming size->ar
open Array renaming getElem?_eq_some_iff->aa
set_option linter.unusedVariables false
set_option maxRecDepth 100000
set_option maxHeartbeats 8000000
namespace Go.Proofs.YtbjalbcdbgcgdaaGreat.bG
open Go.RowKit
theorem TX (x y:Int):(if y<x then y else x)=min x y:=by omega
theorem HU (x y:Int):(if x<y then y else x)=max x y:=by omega
theorem IA {k:IntKind} {a b:Int} (h:a=b):Ending.returned (.int k a)= .returned (.int k b):=by rw[h]
theorem lA {k:IntKind} {a b:Int} (h:a=b):Value.int k a=Value.int k b:=by rw[h]
theorem agU {a:Int} (h:(Lit.int .u64 a).wf=true): ∃ n:Nat,a=(n:Int)∧n<18446744073709551616:=by
 simp [Lit.wf,IntKind.min,IntKind.max,IntKind.signed,IntKind.bits] at h;exact⟨a.toNat,by omega,by omega⟩
theorem aqH {a:Int} (h:(Lit.int .u8 a).wf=true): ∃ n:Nat,a=(n:Int)∧n<256:=by
 simp [Lit.wf,IntKind.min,IntKind.max,IntKind.signed,IntKind.bits] at h;exact⟨a.toNat,by omega,by omega⟩
theorem CB {a:Int} (h:(Lit.int .i64 a).wf=true): -9223372036854775808≤a∧a≤9223372036854775807:=by
 simp [Lit.wf,IntKind.min,IntKind.max,IntKind.signed,IntKind.bits] at h;omega
theorem axT (l:List UInt8):(⟨l.toArray⟩:ByteArray).size=l.length:=by simp [ar]
def iU (P:Program) (t e:TypeId) (size bytes:Nat) (z:Value):Prop:=
 P.underlying t=some (.slice e)∧z.cells.size=size∧0<size∧ ∃ i,P.info? e=some i∧i.zero=some z∧i.size=size∧i.bytes=bytes
theorem wZ {P:Program} {t e:TypeId} {size bytes:Nat} {z:Value} (h1:P.underlying t=some (.slice e)) (h2:(P.info? e).map (fun i=>(i.zero,i.size,i.bytes))=some (some z,size,bytes)) (h3:z.cells.size=size) (h4:0<size):iU P t e size bytes z:=by
 obtain⟨i,a,b,c,d⟩:=info_parts h2;exact⟨h1,h3,h4,i,a,b,c,d⟩
theorem acW {P:Program} {w0 w:World} {B:Nat} {t e:TypeId} {bytes:Nat} {z:Value} (hT:iU P t e 1 bytes z) {ops:Array Oper} {rest:List Oper} {o:Oper} {a:Act} {Q:Exit→Act→World→Prop} (hgd:o.guard=none) (s x:Operand) (ho:o.op= .call { callee:= .builtin .append,args:= #[s,x],argTypes:= #[t,t] })
  (v u:Value) (n:Nat) (xs:List Value) (hs:a.eval s=v) (hx:a.eval x= .slice (some ⟨w.heap.size,0,none⟩) 1 1)
  (hown:w.ownsRow B e 1 v n xs) (hu:u.oneCell'=true)
  (hbytes:(n+1)*bytes≤140737488355328) (h63:n+1≤maxLen) (hb:Below B w0 w) (hB:B≤w.heap.size)
  (h: ∀ v' w',w'.ownsRow B e 1 v' (n+1) (xs++[u])→w.grownBy w' v.ownBlock→Below B w0 w'→B≤w'.heap.size→wpList P ops Q rest (a.put o.dst v') w'):
  wpList P ops Q (o::rest) a (w.alloc (.cells #[u] e)):=by
 obtain⟨h1,h2,h3,i,hi1,hi2,hi3,hi4⟩:=hT;refine wpList_append_own (w:=w.alloc (.cells #[u] e)) hgd s x t ho B e i z 1 bytes h1 hi1 hi2 hi3 hi4 h2 h3 v n xs hs (hown.alloc _) ⟨w.heap.size,0,none⟩ 1 1 [u] hx (by simp) ?_ (by simpa using hu) h63 hbytes (by simp;omega) ?_
 ·intro j y hj
  match j,hj with
  |0,hj=>simp at hj;subst hj;simp [Addr.add]
 ·intro v' w' ho' hg _;have hgr:w.grownBy w' v.ownBlock:=by
   refine⟨hg.os,hg.tape,hg.output, ?_, ?_⟩
   ·have:=hg.size;simp at this;omega
   ·intro k hk hne;rw[hg.block k (by simp;omega) hne];exact heap_alloc_old w _ hk
  exact h v' w' ho' hgr (hb.grown hgr hB (fun k hk=>(hown.lt k hk).1)) (ae hB hgr.size)
theorem aFR {P:Program} {w0 w:World} {B:Nat} {t e:TypeId} {bytes:Nat} {z:Value} (hT:iU P t e 1 bytes z) (hz:z.cells= #[z]) {ops:Array Oper} {rest:List Oper} {o:Oper} {a:Act} {Q:Exit→Act→World→Prop} (hg:o.guard=none) (l c:Operand) (xB:o.op=Op.makeSlice t l c) (kl kc:IntKind) (L C:Int) (n:Nat) (hl:a.eval l= .int kl L) (hc:a.eval c= .int kc C) (hL:L=(n:Int)) (hC:C=(n:Int)) (b2:bytes*n≤281474976710656) (b3:n≤maxLen) (hb:Below B w0 w) (hB:B≤w.heap.size) (h: ∀ g w',w'.ownsRow B e 1 (.slice (some ⟨g,0,none⟩) n n) n (List.replicate n z)→w.grownBy w' none→Below B w0 w'→B≤w'.heap.size→g=w.heap.size→wpList P ops Q rest (a.put o.dst (.slice (some ⟨g,0,none⟩) n n)) w'):wpList P ops Q (o::rest) a w:=by
 obtain⟨h1,h2,h3,i,hi1,hi2,hi3,hi4⟩:=hT;refine wpList_make_full w hg l c t xB B e i z 1 h1 hi1 hi2 hi3 kl kc L C n hl hc hL hC (by rw[hi4];exact b2) b3 hB ?_;intro w' ho hgr;refine h _ w' ?_ hgr (hb.grown hgr hB (fun k hk=>by cases hk)) (ae hB hgr.size) rfl;have e1:=toList_madeCells_one z (n*1);rw[ao] at e1;rw[hz,ao,e1] at ho;exact ho
def aP (l:List UInt8):List Value:=l.map fun b=>Value.int .u8 (b.toNat:Int)
theorem eI (l:List UInt8) (b:UInt8) (n:Int) (h:n=(b.toNat:Int)):aP l++[Value.int .u8 n]=aP (l++[b]):=by subst h;simp [aP]
theorem kA {P:Program} {w:World} {B src dst e:TypeId} {v:Value} {n:Nat} {l:List UInt8} (hs:P.underlying src=some (.slice e)) (he:P.underlying e=some (.int .u8)) (hd:P.underlying dst=some .string) (hown:w.ownsRow B e 1 v n (aP l)):(convert src dst v).run P w= .ok (.string ⟨l.toArray⟩) w:=by
 have hn:n=l.length:=by have:=hown.1;simp [aP] at this;omega
 subst hn;rcases hown.2 with⟨rfl,h0⟩|⟨g,cap,cur,rfl,hb,hg,hl,hm,hc,ht⟩
 ·have:l=[]:=List.eq_nil_of_length_eq_zero h0;subst this;exact Lib.run_convert_nil_bytes w src dst e 0 hs he hd
 ·refine run_convert_bytes_back w src dst e ⟨g,0,none⟩ cap l hs he hd ?_;intro j hj;refine hown.cells (g:=g) rfl j _ ?_;simp [aP,hj]
structure BW (w0:World) where
 w:World
 h:Below w0.heap.size w0 w
instance (w0:World):Nonempty (BW w0):=⟨⟨w0,Below.refl _ _⟩⟩
theorem kJ {P:Program} {id:Nat} {Q:Exit→Act→World→Prop} {a:Act} {w:World} {l:List Oper} (hm:P.follows .mixedOrders=true) (hB:Region.lexB .any l.toArray=true) (h:wpQuiet P l.toArray (fun w'=> ∃ x:BW w,w'=x.w) (fun a'=> ∀ w',(∃ x:BW w,w'=x.w)→Q .normal a' w') l a):(Code.region id l.toArray true).wp P Q a w:=
 wp_region_quiet (C:=fun w'=> ∃ x:BW w,w'=x.w) hm hB ⟨⟨_,(Below.refl _ _).drew⟩,rfl⟩ (by simpa using h)
theorem PB {w w':World} {B e size:Nat} {v:Value} {n:Nat} {xs:List Value} (h:w.ownsRow B e size v n xs) (hb:Below w.heap.size w w'):w'.ownsRow B e size v n xs:=by
 refine⟨h.1, ?_⟩;rcases h.2 with hn|⟨g,cap,cur,rfl,hb0,hgg,rest⟩
 ·exact .inl hn
 ·exact .inr ⟨g,cap,cur,rfl,hb0,by rw[hb.block g (aa.1 hgg).1];exact hgg,rest⟩
end Go.Proofs.YtbjalbcdbgcgdaaGreat.bG
namespace Go.Proofs.YtbjalbcdbgcgdaaGreat.bG
open Go.RowKit
theorem JF {P:Program} (w:World) (t:TypeId) (z v:Value) (hz:(P.info? t).map (·.zero)=some (some z)):(Instr.alloc t true v).run P w= .ok (.pointer (some ⟨w.heap.size,0,none⟩)) (w.alloc (.cells z.cells t)):=by
 cases hq:P.info? t with
 |none=>simp [hq] at hz
 |some i=>
  have hi:i.zero=some z:=by simpa [hq] using hz
  simp [Instr.alloc,zeroValue,typeInfo,hq,hi,newVar,newRow,Sem.run_bind]
theorem rN {P:Program} {w:World} {ops:Array Oper} {rest:List Oper} {o:Oper} {a:Act} {Q:Exit→Act→World→Prop} (hgd:o.guard=none) (t:TypeId) (ho:o.op= .alloc t) (z:Value) (hz:(P.info? t).map (·.zero)=some (some z)) (h:wpList P ops Q rest (a.put o.dst (.pointer (some ⟨w.heap.size,0,none⟩))) (w.alloc (.cells z.cells t))):wpList P ops Q (o::rest) a w:=by
 refine wpList_plain hgd fun K hK=> ?_
 unfold Oper.wp execOp;simp only[ho,Sem.run_bind,Sem.run_pure,Result.andThen_ok,JF w t z _ hz];exact hK _ _ h
theorem wpList_store_row {P:Program} {w:World} {ops:Array Oper} {rest:List Oper} {o:Oper} {a:Act} {Q:Exit→Act→World→Prop} (hgd:o.guard=none) (ty:TypeId) (x y:Operand) (ho:o.op= .store ty x y) (g:Nat) (hx:a.eval x= .pointer (some ⟨g,0,none⟩)) (t:TypeId) (cur cs:Array Value) (hg:w.heap[g]? =some (.cells cur t (0,0))) (hy:a.eval y= .agg cs) (hsz:cs.size=cur.size) (hi:(P.info? ty).map (·.size)=some cs.size) (h1: ∀ v∈cs.toList,v.oneCell'=true) (h:wpList P ops Q rest (a.put o.dst undef) (w.setRow g cs)):wpList P ops Q (o::rest) a w:=by
 refine wpList_plain hgd fun K hK=> ?_
 cases hq:P.info? ty with
 |none=>simp [hq] at hi
 |some i=>
  have hs:i.size=cs.size:=by simpa [hq] using hi
  have hst:=run_storeCells_at P g 0 t cs.toList 0 cur w hg (by simp [hsz]) h1;have e:(cur.toList.take (0+0)++cs.toList++cur.toList.drop (0+0+cs.toList.length)).toArray=cs:=by
   simp [hsz];rw[List.drop_of_length_le (by simp)];simp
  rw[e] at hst;unfold Oper.wp execOp;simp only[ho,hx,hy,Instr.storeAt,Instr.sureAddr,Sem.run_bind,Sem.run_pure,Result.andThen_ok,storeVar,sizeOf,typeInfo,Value.cells];simp [hq,hs,Sem.run_bind,hst,Result.andThen_ok,Oper.upon];exact hK _ _ h
theorem yR {B:Nat} {w0 w:World} (h:Below B w0 w) {g:Nat} (hg:B≤g) (cs:Array Value):Below B w0 (w.setRow g cs):=
 h.trans ⟨rfl,rfl,rfl,by simp [World.setRow],fun k hk=>setRow_other w g k cs (by omega)⟩
end Go.Proofs.YtbjalbcdbgcgdaaGreat.bG
namespace Go.Proofs.YtbjalbcdbgcgdaaGreat.bG
open Go.RowKit
theorem akE {P:Program} {w0 w:World} {B:Nat} {t e:TypeId} {bytes:Nat} {z:Value} (hT:iU P t e 1 bytes z) {ops:Array Oper} {o:Oper} {a:Act} {K:Act→World→Prop} {Q:Exit→Act→World→Prop} {E:Prop} (hgd:o.guard=none) (s x:Operand) (ho:o.op= .call { callee:= .builtin .append,args:= #[s,x],argTypes:= #[t,t] })
  (v u:Value) (n:Nat) (xs:List Value) (hs:a.eval s=v) (ad:Addr) (hx:a.eval x= .slice (some ad) 1 1) (hcell:w.cell? ad=some u)
  (hown:w.ownsRow B e 1 v n xs) (hu:u.oneCell'=true)
  (hbytes:(n+1)*bytes≤140737488355328) (h63:n+1≤maxLen) (hb:Below B w0 w) (hB:B≤w.heap.size)
  (h: ∀ v' w',w'.ownsRow B e 1 v' (n+1) (xs++[u])→w.grownBy w' v.ownBlock→Below B w0 w'→B≤w'.heap.size→K (a.put o.dst v') w'):
  if Region.wanted o (yielded ops a.tmps)=true then Oper.wp P o a w K Q else E:=by
 have hw:Region.wanted o (yielded ops a.tmps)=true:=by simp [Region.wanted,hgd]
 rw[if_pos hw];obtain⟨h1,h2,h3,i,hi1,hi2,hi3,hi4⟩:=hT;refine wp_append_own w s x t ho B e i z 1 bytes h1 hi1 hi2 hi3 hi4 h2 h3 v n xs hs hown ad 1 1 [u] hx (by simp) ?_ (by simpa using hu) h63 hbytes hB ?_
 ·intro j y hj
  match j,hj with
  |0,hj=>simp at hj;subst hj;simpa [Addr.add] using hcell
 ·intro v' w' ho' hg _;exact h v' w' ho' hg (hb.grown hg hB (fun k hk=>(hown.lt k hk).1)) (ae hB hg.size)
end Go.Proofs.YtbjalbcdbgcgdaaGreat.bG
namespace Go.Proofs.YtbjalbcdbgcgdaaGreat.bG
open Go.RowKit
theorem akF {w:World} {B e:Nat} {v:Value} {n:Nat} {xs:List Value} (h:w.ownsRow B e 1 v (n+1) xs): ∃ g cap,v= .slice (some ⟨g,0,none⟩) (n+1) cap∧B≤g∧g<w.heap.size:=by
 rcases h.2 with⟨_,h0⟩|⟨g,cap,cur,rfl,hb,hg,_⟩
 ·omega
 ·exact⟨g,cap,rfl,hb,(aa.1 hg).1⟩
theorem JG {P:Program} {w0 w:World} {B:Nat} {t e:TypeId} {bytes:Nat} {z:Value} (hT:iU P t e 1 bytes z) {ops:Array Oper} {o:Oper} {a:Act} {K:Act→World→Prop} {Q:Exit→Act→World→Prop} {E:Prop} (hgd:o.guard=none) (s x:Operand) (ho:o.op= .call { callee:= .builtin .append,args:= #[s,x],argTypes:= #[t,t] })
  (v u:Value) (n:Nat) (xs:List Value) (hs:a.eval s=v) (ad:Addr) (hx:a.eval x= .slice (some ad) 1 1) (hcell:w.cell? ad=some u)
  (hown:w.ownsRow B e 1 v n xs) (hu:u.oneCell'=true)
  (hbytes:(n+1)*bytes≤140737488355328) (h63:n+1≤maxLen) (hb:Below B w0 w) (hB:B≤w.heap.size)
  (h: ∀ g cap w',w'.ownsRow B e 1 (.slice (some ⟨g,0,none⟩) (n+1) cap) (n+1) (xs++[u])→w.grownBy w' v.ownBlock→Below B w0 w'→B≤g→g<w'.heap.size→K (a.put o.dst (.slice (some ⟨g,0,none⟩) (n+1) cap)) w'):
  if Region.wanted o (yielded ops a.tmps)=true then Oper.wp P o a w K Q else E:=
 akE hT hgd s x ho v u n xs hs ad hx hcell hown hu hbytes h63 hb hB fun v' w' h1 h2 h3 _=>by
  obtain⟨g,cap,rfl,h5,h6⟩:=akF h1;exact h g cap w' h1 h2 h3 h5 h6
end Go.Proofs.YtbjalbcdbgcgdaaGreat.bG
namespace Go.Proofs.YtbjalbcdbgcgdaaGreat.bG
open Go.RowKit
def bM (w:World) (sz:Nat) (v:Value) (rows:List (List Value)):Prop:=
 (rows=[]∧(v= .slice none 0 0∨ ∃ a cap,v= .slice (some a) 0 cap))∨
 ∃ b off cap,v= .slice (some ⟨b,off,none⟩) rows.length cap∧rows.length≤cap∧cap≤maxLen∧0<rows.length∧b<w.heap.size∧
  ∀ i r,rows[i]? =some r→r.length=sz∧ ∀ j x,r[j]? =some x→w.cell? ⟨b,off+i*sz+j,none⟩=some x
theorem bM.below {w w':World} {sz:Nat} {v:Value} {rows:List (List Value)} (h:bM w sz v rows) {B:Nat} (hB:w.heap.size≤B) (hb:Below B w w'):bM w' sz v rows:=by
 rcases h with h|⟨b,off,cap,h1,h2,h3,h4,h5,h6⟩
 ·exact .inl h
 ·refine .inr ⟨b,off,cap,h1,h2,h3,h4,ab h5 hb.size,fun i r hr=>⟨(h6 i r hr).1,fun j x hx=> ?_⟩⟩;rw[hb.cell (p:=⟨b,off+i*sz+j,none⟩) (ab h5 hB)];exact (h6 i r hr).2 j x hx
end Go.Proofs.YtbjalbcdbgcgdaaGreat.bG
namespace Go.Proofs.YtbjalbcdbgcgdaaGreat.bG
open Go.RowKit
theorem xC (w:World) (r:Option Nat):w.grownBy w r:=⟨rfl,rfl,rfl,aq _,fun _ _ _=>rfl⟩
theorem pC {w w1 w2:World} {r:Option Nat} (h:w.grownBy w1 r) (k:w1.grownBy w2 r):w.grownBy w2 r:=
 ⟨k.os.trans h.os,k.tape.trans h.tape,k.output.trans h.output,ae h.size k.size,fun i hi hn=>(k.block i (ab hi h.size) hn).trans (h.block i hi hn)⟩
theorem akG {w w1:World} {A:Nat} (h:w.grownBy w1 (some A)) (j:Nat) (v:Value):w.grownBy (w1.setCell ⟨A,j,none⟩ v) (some A):=
 have k:=(Below.refl 0 w1).setCell (p:=⟨A,j,none⟩) (Nat.zero_le _) v
 ⟨k.os.trans h.os, k.tape.trans h.tape, k.output.trans h.output, ae h.size k.size, fun i hi hn => by
  rw [heap_setCell_other _ _ _ _ (by intro e; apply hn; exact congrArg some e)]; exact h.block i hi hn⟩
theorem acX {w w1:World} {r:Option Nat} (h:w.grownBy w1 r):w.grownBy w1.drew r:=⟨h.os,h.tape,h.output,h.size,h.block⟩
theorem bM.view {w:World} {sz:Nat} {v:Value} {rows:List (List Value)} (h:bM w sz v rows): ∃ q cap b off,v= .slice q rows.length cap∧(∀ k,k<rows.length→q=some ⟨b,off,none⟩∧b<w.heap.size)∧ ∀ i r,rows[i]? =some r→ ∀ j x,r[j]? =some x→w.cell? ⟨b,off+i*sz+j,none⟩=some x:=by
 rcases h with⟨rfl,hv⟩|⟨b,off,cap,rfl,hcap,hmax,hpos,hblk,hrows⟩
 ·rcases hv with rfl|⟨a,cap,rfl⟩
  ·exact⟨none,0,0,0,rfl,fun k hk=>by simp at hk,fun i r hr=>by simp at hr⟩
  ·exact⟨some a,cap,0,0,rfl,fun k hk=>by simp at hk,fun i r hr=>by simp at hr⟩
 ·exact⟨_,cap,b,off,rfl,fun _ _=>⟨rfl,hblk⟩,fun i r hr=>(hrows i r hr).2⟩
theorem take_one {α:Type} {xs:List α} {k:Nat} {p:α} (hp:xs[k]? =some p):xs.take (k+1)=xs.take k++[p]:=by
 rw[List.take_add_one,hp];rfl
theorem uZ {W w w':World} (h:Below W.heap.size W w) (hg:w.grownBy w' none):Below W.heap.size W w':=
 h.trans ⟨hg.os,hg.tape,hg.output,hg.size,fun k hk=>hg.block k (ab hk h.size) (by simp)⟩
theorem aqI {w:World} {xs:Array Value} {e n j:Nat} {v:Value} (h:n=w.heap.size) (hx:xs[j]? =some v):(w.alloc (.cells xs e)).cell? ⟨n,j,none⟩=some v:=by
 subst h;rw[cell_of_row _ _ _ _ _ _ (heap_alloc_new _ _)];exact hx
theorem lB {w w':World} (h:Below w.heap.size w w'):w.grownBy w' none:=⟨h.os,h.tape,h.output,h.size,fun k hk _=>h.block k hk⟩
end Go.Proofs.YtbjalbcdbgcgdaaGreat.bG
namespace Go.Proofs.YtbjalbcdbgcgdaaGreat.bG
open Go.RowKit
def flat {α:Type} (f:α→List Value) (xs:List α):List Value:=(xs.map f).flatten
theorem kB {α:Type} (f:α→List Value) (sz:Nat) (hf: ∀ x,(f x).length=sz): ∀ xs:List α,(flat f xs).length=xs.length*sz:=by
 intro xs;induction xs with
 |nil=>simp [flat]
 |cons x xs ih=>
  have:flat f (x::xs)=f x++flat f xs:=rfl;rw[this,ag,ih,hf,List.length_cons,ak,Nat.add_comm]
theorem nN {α:Type} (f:α→List Value) (sz:Nat) (hf: ∀ x,(f x).length=sz): ∀ (xs:List α) (i:Nat) (x:α),xs[i]? =some x→ ∀ (j:Nat) (y:Value),(f x)[j]? =some y→(flat f xs)[i*sz+j]? =some y:=by
 intro xs;induction xs with
 |nil=>intro i x h;simp at h
 |cons a xs ih=>
  intro i x h j y hj;have e:flat f (a::xs)=f a++flat f xs:=rfl;have hjl:=(ah.1 hj).1;rw[hf] at hjl;rw[e];cases i with
  |zero=>
   simp at h;subst h;rw[Nat.zero_mul,Nat.zero_add,List.getElem?_append_left (by rw[hf];exact hjl)];exact hj
  |succ i=>
   rw[List.getElem?_append_right (by rw[hf,ak];omega),hf,ak,show i*sz+sz+j-sz=i*sz+j from by omega];exact ih i x (by simpa using h) j y hj
theorem rO {w:World} {B e sz:Nat} {v:Value} {α:Type} {xs:List α} {f:α→List Value} {n:Nat} (hf: ∀ x,(f x).length=sz) (hl:n=xs.length) (h:w.ownsRow B e sz v n (flat f xs)):bM w sz v (xs.map f):=by
 subst hl;rcases h.2 with⟨rfl,h0⟩|⟨g,cap,cur,rfl,hb,hg,h1,h2,h3,h4⟩
 ·left;exact⟨by simpa using h0, .inl rfl⟩
 ·by_cases h0:xs.length=0
  ·left;exact⟨by simpa using h0, .inr ⟨_,cap,by rw[h0]⟩⟩
  ·right;refine⟨g,0,cap,by simp,by simpa using h1,h2,by simp;omega,(aa.1 hg).1, ?_⟩;intro i r hr;rw[al] at hr;obtain⟨x,hx,rfl⟩:=Option.map_eq_some_iff.1 hr;refine⟨hf x, ?_⟩;intro j y hy;have hgi:some g=(Value.slice (some ⟨g,0,none⟩) xs.length cap).ownBlock:=rfl;have:=h.cells hgi.symm (i*sz+j) y (nN f sz hf xs i x hx j y hy);have ea:(⟨g,0,none⟩:Addr).add (i*sz+j)=⟨g,i*sz+j,none⟩:=by unfold Addr.add;split<;>simp_all
   rw[ea] at this;simpa using this
end Go.Proofs.YtbjalbcdbgcgdaaGreat.bG
namespace Go.Proofs.YtbjalbcdbgcgdaaGreat.bG
open Go.RowKit
theorem sS {P:Program} {w:World} {t e ty:TypeId} {sz bytes:Nat} {z:Value} (hT:iU P t e sz bytes z) {B n:Nat} {v:Value} {xs:List Value} (hown:w.ownsRow B e sz v n xs):(Builtin.append_ #[t,t] ty #[v, .slice none 0 0]).run P w= .ok v w:=by
 obtain⟨h1,h2,h3,i,hi1,hi2,hi3,hi4⟩:=hT;rcases hown.2 with⟨rfl,h0⟩|⟨g,cap,cur,rfl,hb,hg,hn,_⟩
 ·simp [Builtin.append_,run_underlying h1,sizeOf,typeInfo,hi1,Builtin.lenOf,Builtin.firstCells]
 ·simp [Builtin.append_,run_underlying h1,sizeOf,typeInfo,hi1,Builtin.lenOf,Builtin.firstCells,hn,storeCells]
def Room (v:Value) (T:Nat):Prop:=(v= .slice none 0 0∧T=0)∨ ∃ g n C,v= .slice (some ⟨g,0,none⟩) n C∧T≤C
theorem aFS {P:Program} {w0 w:World} {B:Nat} {t e:TypeId} {sz bytes:Nat} {z:Value} (hT:iU P t e sz bytes z) {ops:Array Oper} {rest:List Oper} {o:Oper} {a:Act} {Q:Exit→Act→World→Prop} (hgd:o.guard=none) (s x:Operand) (ho:o.op= .call { callee:= .builtin .append,args:= #[s,x],argTypes:= #[t,t] })
  {α:Type} (f:α→List Value) (hf: ∀ y,(f y).length=sz) (hf1: ∀ y, ∀ u∈f y,u.oneCell'=true)
  (v u:Value) (n T:Nat) (xs:List Value) (ys:List α) (hs:a.eval s=v) (hx:a.eval x=u)
  (hown:w.ownsRow B e sz v n xs) (hroom:Room v T) (hnT:n+ys.length≤T) (hsl:bM w sz u (ys.map f)) (hb:Below B w0 w) (hB:B≤w.heap.size)
  (h: ∀ v' w',w'.ownsRow B e sz v' (n+ys.length) (xs++flat f ys)→Room v' T→Below B w0 w'→B≤w'.heap.size→wpList P ops Q rest (a.put o.dst v') w'):
  wpList P ops Q (o::rest) a w:=by
 by_cases h0:ys=[]
 ·subst h0;have hrun: ∀ ty,(Builtin.append_ #[t,t] ty #[v,u]).run P w= .ok v w:=by
   intro ty;rcases hsl with⟨_,rfl|⟨ad,cap,rfl⟩⟩|⟨b,off,cap,_,_,_,hpos,_⟩
   ·exact sS hT hown
   ·obtain⟨h1,h2,h3,i,hi1,hi2,hi3,hi4⟩:=hT;rcases hown.2 with⟨rfl,h0⟩|⟨g,cap,cur,rfl,hb,hg,hn,_⟩
    ·simp [Builtin.append_,run_underlying h1,sizeOf,typeInfo,hi1,Builtin.lenOf,Builtin.firstCells,loadCells,loadCellsFrom]
    ·simp [Builtin.append_,run_underlying h1,sizeOf,typeInfo,hi1,Builtin.lenOf,Builtin.firstCells,hn,storeCells,loadCells,loadCellsFrom]
   ·simp at hpos
  refine Lib.wpList_append_run w hgd s x t t ho _ _ hs hx _ _ (hrun _) ?_;exact h v w (by simpa [flat] using hown) hroom hb hB
 ·have hpos:0<ys.length:=List.length_pos_iff.2 h0;obtain⟨h1,h2,h3,i,hi1,hi2,hi3,hi4⟩:=hT;rcases hsl with⟨h9,_⟩|⟨b,off,cp,rfl,_,_,_,hblk,hrows⟩
  ·simp at h9;exact absurd h9 h0
  ·simp only[List.length_map] at hx;rcases hroom with⟨_,hT0⟩|⟨g',n',C,hv,hTC⟩
   ·omega
   ·rcases hown.2 with⟨hv2,_⟩|⟨g,cap,cur,rfl,hbg,hg,hnc,hcm,hcs,htake⟩
    ·rw[hv2] at hv;simp at hv
    ·have hCc:C=cap:=by simp at hv;omega
     subst hCc;have hnews: ∀ j y,(flat f ys)[j]? =some y→w.cell? ((⟨b,off,none⟩:Addr).add j)=some y:=by
      intro j y hj;have hjl:=(ah.1 hj).1;rw[kB f sz hf] at hjl;have hi:j/sz<ys.length:=(Nat.div_lt_iff_lt_mul h3).2 hjl;have hm:j%sz<sz:=Nat.mod_lt _ h3;obtain⟨y0,hy0⟩: ∃ y0,ys[j/sz]? =some y0:=⟨_,aj hi⟩;obtain⟨u,hu⟩: ∃ u,(f y0)[j%sz]? =some u:=⟨_,aj (by rw[hf];exact hm)⟩;have qE:=nN f sz hf ys (j/sz) y0 hy0 (j%sz) u hu;have hdm:j/sz*sz+j%sz=j:=by rw[Nat.mul_comm];exact Nat.div_add_mod j sz
      rw[hdm,hj] at qE;have hyu:=Option.some.inj qE;subst hyu;have hcell:=(hrows (j/sz) (f y0) (by rw[al,hy0];rfl)).2 (j%sz) y hu;have ea:(⟨b,off,none⟩:Addr).add j=⟨b,off+j,none⟩:=by unfold Addr.add;split<;>simp_all
      rw[ea, ←hdm, ←Nat.add_assoc];exact hcell
     have hone: ∀ u∈flat f ys,u.oneCell'=true:=by
      intro u hu;unfold flat at hu;obtain⟨l,hl,hul⟩:=List.mem_flatten.1 hu;obtain⟨y,_,rfl⟩:=List.mem_map.1 hl;exact hf1 y u hul
     have hll:(flat f ys).length=ys.length*i.size:=by rw[kB f sz hf,hi3]
     have hfit:n*i.size+(flat f ys).length≤cur.size:=by rw[hll,hcs,hi3, ←an];exact Nat.mul_le_mul_right _ (by omega)
     have hr:=run_append_room (P:=P) w t o.type e i h1 hi1 g n C cur hg ⟨b,off,none⟩ ys.length cp (flat f ys) hll hnews hone (by omega) hfit;have hlen:(xs++flat f ys).length=(n+ys.length)*sz:=by rw[ag,hown.1,hll,hi3,an]
     refine Lib.wpList_append_run w hgd s x t t ho _ _ hs hx _ _ hr ?_;refine h _ _ ⟨hlen, .inr ⟨g,C,_,rfl,hbg,setRow_heap w g cur _ e _ hg,by omega,hcm, ?_, ?_⟩⟩ (.inr ⟨g,_,C,rfl,hTC⟩) ?_ ?_
     ·simp only[List.size_toArray,ag,List.length_take,List.length_drop,Array.length_toList];omega
     ·rw[←hlen];simp only[hi3];rw[htake];exact List.take_left
     ·exact hb.trans ⟨rfl,rfl,rfl,by simp [World.setRow],fun k hk=>setRow_other w g k _ (by omega)⟩
     ·simpa [World.setRow] using hB
theorem acY {w:World} {e sz n:Nat} {z:Value} (hz:z.cells.size=sz) (h63:n≤maxLen):(w.drew.alloc (.cells (Builtin.zeroCells z.cells n++Builtin.zeroCells z.cells (grownCap w n 0 e-n)) e)).ownsRow w.heap.size e sz (.slice (some ⟨w.heap.size,0,none⟩) 0 (grownCap w n 0 e)) 0 []:=by
 have hge := grownCap_ge w n 0 e;have := World.ownsRow_made (base := w.heap.size) (e := e) (size := sz) w.drew (Builtin.zeroCells z.cells n ++ Builtin.zeroCells z.cells (grownCap w n 0 e - n)) (grownCap w n 0 e) (aq _) (grownCap_le_maxLen w n 0 e h63) (by
  rw [Array.size_append, size_zeroCells, size_zeroCells, hz, ← an];congr 1;omega)
 exact this
end Go.Proofs.YtbjalbcdbgcgdaaGreat.bG
namespace Go.Proofs.YtbjalbcdbgcgdaaGreat.bG
end Go.Proofs.YtbjalbcdbgcgdaaGreat.bG
