/- Law HandStale: its texts, packed. -/
import Derived.Test.YtbjalbcdbgcgdaaGreatK03
import Derived.Laws.StructEq
import Derived.OwnWalk
open List renaming mem_cons_of_mem->ax,replicate->eb
open Nat renaming zero_add->di
open Option renaming some.injEq->bd
open ByteArray renaming ext->fo
set_option linter.unusedVariables false
set_option maxRecDepth 100000
set_option maxHeartbeats 8000000
namespace Go.Proofs.YtbjalbcdbgcgdaaGreat.sl
open Go.RowKit bG
theorem str_inj {s t:ByteArray} (h:s.toList=t.toList):s=t:=by
 rw[Lib.toList_data,Lib.toList_data] at h;exact fo (Array.toList_inj.mp h)
section
variable {P:Program} {n:Nat} {F:dF} {H R:List Ent} {o:Oper} {x y z:Operand} {v u z':Value} {T:TypeId}
theorem wM {α:Type} {f:α→List Value} {xs:List α} {q:α} {i sz j g off fs:Nat} [hf:jV P T g off fs] (ho:o.op= .fieldAddr T x g) (hx:ev F x=some (bC v i sz j)) {k:Nat} (hk:j+off=k) (p:bF (sl sz v (xs.map f)) H R) (hr:xs[i]? =some q):Qt P n o F H (bC v i sz k):=fun a w ha hw=>by
 have hb:bM w sz v (xs.map f):=hw.1 _ p.mem;obtain⟨ad,m,c,rfl,hsp,_⟩:=UB hb (i:=i) (r:=f q) (by rw[List.getElem?_map,hr];rfl);exact EU ho hx hk (H:=H) (fun w _ a' m' c' e=>by simp only[Value.slice.injEq,bd] at e;rw[←e.1];exact hsp) rfl (fun _ _ h=>by cases h) a w ha hw
theorem wN {i sz j g off fs m e:Nat} {xs:List Value} [hf:jV P T g off fs] (ho:o.op= .fieldAddr T x g) (hx:ev F x=some (bC v i sz j)) {k:Nat} (hk:j+off=k) (p:bF (own v e sz m xs) H R) (hi:i<m):Qt P n o F H (bC v i sz k):=fun a w ha hw=>by
 have hb:w.ownsRow 0 e sz v m xs:=hw.1 _ p.mem;rcases hb.2 with⟨_,h0⟩|⟨g',cap,cur,rfl,_⟩
 ·omega
 ·exact EU ho hx hk (H:=H) (fun w _ a' m' c' e=>by simp only[Value.slice.injEq,bd] at e;rw[←e.1]) rfl (fun _ _ h=>by cases h) a w ha hw
theorem zA {b i:Nat} (ho:o.op= .nilCheck x) (hx:ev F x=some (aH b i)):Qt P n o F H (aH b i):=adE ho hx
theorem eS {b t sz by':Nat} {cs:List Value} {ty t':TypeId} [ht:Ty P ty true sz by' z'] (hx:look F t=some (aH b 0)) (p:bF (box b cs t') H R) (hl:cs.length=sz):jC P F H (.cell t ty) (.agg cs.toArray):=
 .read (a:=⟨b,0,none⟩) hx fun w hw=>kS ht w _ cs hl (fun j u hj=>by rw[addr_add,di,vD (hw.1 _ p.mem)];exact hj) (qH cs)
theorem dZ {b t by':Nat} {c:Value} {ty t':TypeId} [ht:Ty P ty false 1 by' z'] (hx:look F t=some (aH b 0)) (p:bF (box b [c] t') H R):jC P F H (.cell t ty) c:=
 .read (a:=⟨b,0,none⟩) hx fun w hw=>kS ht w _ [c] rfl (fun j u hj=>by rw[addr_add,di,vD (hw.1 _ p.mem)];exact hj) (nU c)
theorem ayC {ops:Array Oper} {Q:eP} {rest:List Oper} {k:IntKind} {i j:Int} {T T':TypeId} (hg:kR ops F o) (hd:fits n o.dst=true) (ho:o.op= .binOp .lss T x y T') (hx:ev F x=some (.int k i)) (hy:ev F y=some (.int k j)) (h1:i<j→cG P ops Q n rest (pA F o.dst (.bool true)) H) (h2:j≤i→cG P ops Q n rest (pA F o.dst (.bool false)) H):cG P ops Q n (o::rest) F H:=
 qF hg hd ho rfl hx hy (fun h=>h1 (aqM h)) fun h=>h2 (ahE h)
theorem ayD {ops:Array Oper} {Q:eP} {rest:List Oper} {k:IntKind} {i j:Int} {T T':TypeId} (hg:kR ops F o) (hd:fits n o.dst=true) (ho:o.op= .binOp .leq T x y T') (hx:ev F x=some (.int k i)) (hy:ev F y=some (.int k j)) (h1:i≤j→cG P ops Q n rest (pA F o.dst (.bool true)) H) (h2:j<i→cG P ops Q n rest (pA F o.dst (.bool false)) H):cG P ops Q n (o::rest) F H:=
 qF hg hd ho rfl hx hy (fun h=>h1 (aqN h)) fun h=>h2 (ahF h)
theorem ayE {ops:Array Oper} {Q:eP} {rest:List Oper} {k:IntKind} {i j:Int} {T T':TypeId} (hg:kR ops F o) (hd:fits n o.dst=true) (ho:o.op= .binOp .gtr T x y T') (hx:ev F x=some (.int k i)) (hy:ev F y=some (.int k j)) (h1:j<i→cG P ops Q n rest (pA F o.dst (.bool true)) H) (h2:i≤j→cG P ops Q n rest (pA F o.dst (.bool false)) H):cG P ops Q n (o::rest) F H:=
 qF hg hd ho rfl hx hy (fun h=>h1 (aqO h)) fun h=>h2 (ahG h)
theorem ayF {ops:Array Oper} {Q:eP} {rest:List Oper} {k:IntKind} {i j:Int} {T T':TypeId} (hg:kR ops F o) (hd:fits n o.dst=true) (ho:o.op= .binOp .geq T x y T') (hx:ev F x=some (.int k i)) (hy:ev F y=some (.int k j)) (h1:j≤i→cG P ops Q n rest (pA F o.dst (.bool true)) H) (h2:i<j→cG P ops Q n rest (pA F o.dst (.bool false)) H):cG P ops Q n (o::rest) F H:=
 qF hg hd ho rfl hx hy (fun h=>h1 (aqP h)) fun h=>h2 (ahH h)
theorem ayG {ops:Array Oper} {Q:eP} {rest:List Oper} {k:IntKind} {i j:Int} {T T':TypeId} (hg:kR ops F o) (hd:fits n o.dst=true) (ho:o.op= .binOp .eql T x y T') (hx:ev F x=some (.int k i)) (hy:ev F y=some (.int k j)) (h1:i=j→cG P ops Q n rest (pA F o.dst (.bool true)) H) (h2:i≠j→cG P ops Q n rest (pA F o.dst (.bool false)) H):cG P ops Q n (o::rest) F H:=
 qF hg hd ho rfl hx hy (fun h=>h1 (aqK h)) fun h=>h2 (ahC h)
theorem ayH {ops:Array Oper} {Q:eP} {rest:List Oper} {k:IntKind} {i j:Int} {T T':TypeId} (hg:kR ops F o) (hd:fits n o.dst=true) (ho:o.op= .binOp .neq T x y T') (hx:ev F x=some (.int k i)) (hy:ev F y=some (.int k j)) (h1:i≠j→cG P ops Q n rest (pA F o.dst (.bool true)) H) (h2:i=j→cG P ops Q n rest (pA F o.dst (.bool false)) H):cG P ops Q n (o::rest) F H:=
 qF hg hd ho rfl hx hy (fun h=>h1 (aqL h)) fun h=>h2 (ahD h)
theorem run_seq {ops:Array Oper} {Q:eP} {rest:List Oper} {s t:ByteArray} {T T':TypeId} (hg:kR ops F o) (hd:fits n o.dst=true) (ho:o.op= .binOp .eql T x y T') (hx:ev F x=some (.string s)) (hy:ev F y=some (.string t)) (h1:s=t→cG P ops Q n rest (pA F o.dst (.bool true)) H) (h2:s≠t→cG P ops Q n rest (pA F o.dst (.bool false)) H):cG P ops Q n (o::rest) F H:=by
 by_cases h:s=t
 ·exact JL hg hd (by have:=CF (P:=P) (n:=n) (H:=H) ho hx hy;rw[h] at this;simpa using this) (h1 h)
 ·refine JL hg hd ?_ (h2 h);have:=CF (P:=P) (n:=n) (H:=H) ho hx hy;have e:(s.toList==t.toList)=false:=by
   simp only[beq_eq_false_iff_ne,ne_eq];intro e;exact h (str_inj e)
  rw[e] at this;exact this
theorem aqU {ops:Array Oper} {Q:eP} {rest:List Oper} {s t:ByteArray} {T T':TypeId} (hg:kR ops F o) (hd:fits n o.dst=true) (ho:o.op= .binOp .neq T x y T') (hx:ev F x=some (.string s)) (hy:ev F y=some (.string t)) (h1:s≠t→cG P ops Q n rest (pA F o.dst (.bool true)) H) (h2:s=t→cG P ops Q n rest (pA F o.dst (.bool false)) H):cG P ops Q n (o::rest) F H:=by
 by_cases h:s=t
 ·exact JL hg hd (by have:=CG (P:=P) (n:=n) (H:=H) ho hx hy;rw[h] at this;simpa using this) (h2 h)
 ·refine JL hg hd ?_ (h1 h);have:=CG (P:=P) (n:=n) (H:=H) ho hx hy;have e:(s.toList==t.toList)=false:=by
   simp only[beq_eq_false_iff_ne,ne_eq];intro e;exact h (str_inj e)
  rw[e] at this;exact this
end
theorem iJ {α:Type} (xs:List α) (k:Nat):(∃ x,xs[k]? =some x∧k<xs.length)∨xs.length≤k:=by
 rcases Nat.lt_or_ge k xs.length with h|h
 ·exact .inl ⟨_,List.getElem?_eq_getElem h,h⟩
 ·exact .inr h
theorem aqV {α:Type} {p:α→Bool} {xs:List α} {k:Nat} {x:α} (hx:xs[k]? =some x) (h:(xs.take k).any p=false) (hp:p x=false):(xs.take (k+1)).any p=false:=by
 rw[take_one hx,List.any_append,h];simp [hp]
theorem ayI {α:Type} {p:α→Bool} {xs:List α} {k:Nat} (hk:xs.length≤k) (h:(xs.take k).any p=false):xs.any p=false:=by
 rw[List.take_of_length_le hk] at h;exact h
theorem aDF {α:Type} {p:α→Bool} {xs:List α} {k:Nat} {x:α} (hx:xs[k]? =some x) (hp:p x=true):xs.any p=true:=by
 rw[List.any_eq_true];exact⟨x,List.mem_of_getElem? hx,hp⟩
def fS (s:ByteArray):List Value:=[.string s]
def fI (i:Int):List Value:=[.int .i64 i]
def fB (b:Bool):List Value:=[.bool b]
def fP (p:Int×ByteArray):List Value:=[.int .i64 p.1, .string p.2]
theorem UF (s:ByteArray): ∀ u∈fS s,u.oneCell'=true:=by simp [fS,Value.oneCell']
theorem UG (s:Int): ∀ u∈fI s,u.oneCell'=true:=by simp [fI,Value.oneCell']
theorem UH (s:Bool): ∀ u∈fB s,u.oneCell'=true:=by simp [fB,Value.oneCell']
theorem UI (p:Int×ByteArray): ∀ u∈fP p,u.oneCell'=true:=by simp [fP,Value.oneCell']
end Go.Proofs.YtbjalbcdbgcgdaaGreat.sl
namespace Go.Proofs.YtbjalbcdbgcgdaaGreat.sl
open Go.RowKit bG
theorem aW {P:Program} {f:FuncId} {args:List Value} {H:List Ent} {u:Value} (h: ∀ w,aD H w→Calls P f args.toArray w fun e w'=>e= .returned u∧Below w.heap.size w w'):Ct P f args H fun v H'=>v=u∧H'=[]:=
 ⟨fun Fr w hw=>(h w (hw.sub (List.sublist_append_left _ _))).mono fun e w' ⟨he,hb⟩=>⟨u,[],he,⟨rfl,rfl⟩,(hw.sub (List.sublist_append_right _ _)).aBV ⟨hb.os,hb.tape,hb.output,hb.size,fun b hb' _=>hb.block b hb'⟩⟩⟩
theorem akL {H:List Ent} {W:World} (h: ∀ e∈H,e.iD=false∧e.holds W):aD H W:=
 ⟨fun e he => (h e he).2, by
  induction H with
  |nil=>exact List.Pairwise.nil
  |cons e H ih=>
   refine List.pairwise_cons.2 ⟨fun f hf hx => ?_, ih fun f hf => h f (ax _ hf)⟩;rw [(h e List.mem_cons_self).1, (h f (ax _ hf)).1] at hx;rcases hx with hx | hx <;> cases hx⟩
theorem aqW (W:World):(gH W).holds W:=Below.refl W.heap.size W
theorem akM {P:Program} {f:FuncId} {args:List Value} {H:List Ent} {u:Value} {W:World} (hH: ∀ e∈H,e.iD=false∧e.holds W) (h:Ct P f args H fun v H'=>v=u∧H'=[]):Calls P f args.toArray W fun e w'=>e= .returned u∧Below W.heap.size W w':=
 (h.go [gH W] W (akL fun e he => by
  rcases List.mem_append.1 he with he|he
  ·exact hH e he
  ·rw [List.mem_singleton.1 he]; exact ⟨rfl, aqW W⟩)).mono fun e w' ⟨v, H', he, ⟨hv, hH'⟩, hk⟩ => by
  subst hv;subst hH';exact⟨he,hk.1 (gH W) (by simp)⟩
theorem rT {P:Program} {f:FuncId} {args:List Value} {H H':List Ent} {R:Value→List Ent→Prop} (hs: ∀ Fr,HSub (H'++Fr) (H++Fr)) (h:Ct P f args H R):Ct P f args H' R:=⟨fun Fr w hw=>h.go Fr w (hs Fr w hw)⟩
theorem QH (T:List Ent):T=[]++T:=rfl
theorem tail_cons {x:Ent} {H pre T:List Ent} (h:H=pre++T):x::H=(x::pre)++T:=by rw[h];rfl
section
variable {P:Program} {n:Nat} {F:dF} {H R:List Ent} {o:Oper} {x y z:Operand} {v u z':Value} {T:TypeId}
theorem run_make_row {t e sz by':Nat} {agg:Bool} (ht:nH P t e) (hs:Ty P e agg sz by' z') (kl kc:IntKind) (c:Nat) (hb:by'*c≤281474976710656) (h63:c≤maxLen) (w:World):(Instr.makeSlice t (.int kl (c:Int)) (.int kc (c:Int))).run P w= .ok (.slice (some ⟨w.heap.size,0,none⟩) c c) (w.alloc (.cells (mQ z' c).toArray e)):=by
 obtain⟨i,d,hi,_,_,h1,h2,h3⟩:=hs.info;have h63':(c:Int)≤9223372036854775807:=by
  have h:=h63;simp [maxLen] at h;omega
 have hb':(i.bytes:Int)*(c:Int)≤281474976710656:=by
  rw[h2];have h:((by'*c:Nat):Int)≤281474976710656:=by omega
  rwa [Int.natCast_mul] at h
 have hr:=run_make (P:=P) w t e i z' ht.h hi h3 kl kc c c (by omega) (Int.le_refl _) hb' h63';simp only[Int.toNat_natCast] at hr;rw[hr,h1, ←IB hs.hz c];rfl
theorem tL {α:Type} {f:α→List Value} {z0:α} (hz:z'.cells=(f z0).toArray) (c:Nat):mQ z' c=flat f (eb c z0):=by simp [mQ,flat,hz]
theorem cT {t e sz by':Nat} {agg:Bool} [ht:nH P t e] [hs:Ty P e agg sz by' z'] {α:Type} (f:α→List Value) (z0:α) {kl kc:IntKind} {i j:Int} {c:Nat} (ho:o.op= .makeSlice t x y) (hx:ev F x=some (.int kl i)) (hy:ev F y=some (.int kc j)) (hi:i=(c:Int)) (hj:j=(c:Int)) (hz:z'.cells=(f z0).toArray) (hf:(f z0).length=sz) (hb:by'*c≤281474976710656) (h63:c≤maxLen):cJ P n o F H fun u H'=> ∃ q,u= .slice q c c∧H'=own (.slice q c c) e sz c (flat f (eb c z0))::H:=fun Q a w next ha hw hn=>by
 subst hi;subst hj;unfold Oper.wp;simp only[execOp,ho,ha.eval hx,ha.eval hy,Sem.run_bind,run_make_row ht hs kl kc c hb h63 w,Result.andThen_ok,Sem.run_pure,Oper.upon];have hl:(mQ z' c).length=c*sz:=by
  rw[tL hz];have: ∀ c,(flat f (eb c z0)).length=c*sz:=by
   intro c;simp [flat,List.length_flatten,hf]
  exact this c
 refine hn _ _ _ ⟨some ⟨w.heap.size,0,none⟩,rfl,rfl⟩ (aD.new hw (fD w (.cells (mQ z' c).toArray e)) ?_ fun b hb=> ?_)
 ·rw[←tL hz];exact⟨hl, .inr ⟨w.heap.size,c,(mQ z' c).toArray,rfl,Nat.zero_le _,heap_alloc_new _ _,Nat.le_refl _,h63,by simpa using hl,by simp [←hl]⟩⟩
 ·have:w.heap.size=b:=Option.some.inj hb;omega
end
section
variable {P:Program} {n:Nat} {F:dF} {H R:List Ent} {o:Oper} {x y z:Operand} {v u z':Value} {T T':TypeId}
theorem akN {s t:ByteArray} (h:s≠t):(s.toList==t.toList)=false:=by
 simp only[beq_eq_false_iff_ne,ne_eq];intro e;exact h (str_inj e)
class EqV (P:Program) (T:TypeId) {α:outParam Type} (val:outParam (α→Value)):Prop where
 g: ∀ (op:BinOp) (x y:Operand) (p q:α) (w:World),(eqGuard op T x y (val p) (val q)).run P w= .ok () w
 t: ∀ (p:α) (w:World),(binOp .eql T (val p) (val p)).run P w= .ok (.bool true) w∧(binOp .neq T (val p) (val p)).run P w= .ok (.bool false) w
 f: ∀ (p q:α) (w:World),p≠q→(binOp .eql T (val p) (val q)).run P w= .ok (.bool false) w∧(binOp .neq T (val p) (val q)).run P w= .ok (.bool true) w
instance [hs : yV P T] : EqV P T Value.string := ⟨fun op x y p q w => by simp [eqGuard], fun p w => by simp [binOp, Op.stringOp], fun p q w hne => by
  have e := akN hne;simp only [beq_eq_false_iff_ne, ne_eq] at e;simp [binOp, Op.stringOp, e]⟩
theorem XQ {α:Type} {val:α→Value} [he:EqV P T val] {p q:α} (ho:o.op= .binOp .eql T x y T') (hx:ev F x=some (val p)) (hy:ev F y=some (val q)) (h:p=q):Qt P n o F H (.bool true):=fun a w ha _=>by
 subst h;simp only[execOp,ho,ha.eval hx,ha.eval hy,Sem.run_bind,he.g,Result.andThen_ok,(he.t p w).1,Sem.run_pure]
theorem XR {α:Type} {val:α→Value} [he:EqV P T val] {p q:α} (ho:o.op= .binOp .neq T x y T') (hx:ev F x=some (val p)) (hy:ev F y=some (val q)) (h:p=q):Qt P n o F H (.bool false):=fun a w ha _=>by
 subst h;simp only[execOp,ho,ha.eval hx,ha.eval hy,Sem.run_bind,he.g,Result.andThen_ok,(he.t p w).2,Sem.run_pure]
theorem XS {α:Type} {val:α→Value} [he:EqV P T val] {p q:α} (ho:o.op= .binOp .eql T x y T') (hx:ev F x=some (val p)) (hy:ev F y=some (val q)) (h:p≠q):Qt P n o F H (.bool false):=fun a w ha _=>by
 simp only[execOp,ho,ha.eval hx,ha.eval hy,Sem.run_bind,he.g,Result.andThen_ok,(he.f p q w h).1,Sem.run_pure]
theorem XT {α:Type} {val:α→Value} [he:EqV P T val] {p q:α} (ho:o.op= .binOp .neq T x y T') (hx:ev F x=some (val p)) (hy:ev F y=some (val q)) (h:p≠q):Qt P n o F H (.bool true):=fun a w ha _=>by
 simp only[execOp,ho,ha.eval hx,ha.eval hy,Sem.run_bind,he.g,Result.andThen_ok,(he.f p q w h).2,Sem.run_pure]
end
def jW (p:Int×Int):List Value:=[.int .i64 p.1, .int .i64 p.2]
def fSI (p:ByteArray×Int):List Value:=[.string p.1, .int .i64 p.2]
def aFV (p:Int×Int×ByteArray):List Value:=[.int .i64 p.1, .int .i64 p.2.1, .string p.2.2]
def aCM (p:Int×Int×Int×ByteArray):List Value:=[.int .i64 p.1, .int .i64 p.2.1, .int .i64 p.2.2.1, .string p.2.2.2]
def wE (p:Int×Int×Int):List Value:=[.int .i64 p.1, .int .i64 p.2.1, .int .u8 p.2.2]
theorem IC (p:Int×Int): ∀ u∈jW p,u.oneCell'=true:=by simp [jW,Value.oneCell']
theorem ID (p:ByteArray×Int): ∀ u∈fSI p,u.oneCell'=true:=by simp [fSI,Value.oneCell']
theorem zB (p:Int×Int×ByteArray): ∀ u∈aFV p,u.oneCell'=true:=by simp [aFV,Value.oneCell']
theorem vF (p:Int×Int×Int×ByteArray): ∀ u∈aCM p,u.oneCell'=true:=by simp [aCM,Value.oneCell']
theorem zC (p:Int×Int×Int): ∀ u∈wE p,u.oneCell'=true:=by simp [wE,Value.oneCell']
end Go.Proofs.YtbjalbcdbgcgdaaGreat.sl
