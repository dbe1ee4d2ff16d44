/- Law HandStale: its texts, packed. -/
import Derived.Test.YtbjalbcdbgcgdaaGreatK01
import Derived.Maps.AppendAt
open List renaming all_eq_true->fa,append_assoc->ep,drop_eq_getElem_cons->cu,drop_zero->du,ext_getElem?->da,getElem?_append->cl,getElem?_drop->bq,getElem?_eq_getElem->aj,getElem?_eq_none->dz,getElem?_eq_some_iff->ah,getElem?_map->al,getElem?_set->dj,getElem?_take->bp,length_append->ag,length_cons->fb,length_drop->eu,length_singleton->df,length_take->b9,map_cons->eh,map_nil->eo,map_toArray->dn,nil_append->fe,replicate->eb,set_eq_take_append_cons_drop->de,size_toArray->db,take_of_length_le->dc
open Nat renaming add_assoc->bw,add_mul->an,add_zero->dm,ble->dv,ble_eq_true_of_le->dw,blt->bh,div_add_mod->dp,div_lt_iff_lt_mul->dh,eq_zero_or_pos->ei,le_of_ble_eq_true->bu,mod_lt->fc,mul_comm->ej,mul_le_mul_right->bz,ne_of_gt->ff,one_mul->dq,zero_add->di,zero_le->fg
open Option renaming map_eq_some_iff->ck,some.inj->bf,some.injEq->bd
open Prod renaming mk.injEq->cr
open Array renaming getElem?_eq_none->dr,range->fh
set_option linter.unusedVariables false
set_option maxRecDepth 100000
set_option maxHeartbeats 8000000
namespace Go.Proofs.YtbjalbcdbgcgdaaGreat.sl
open Go.RowKit bG
def adC:TypeDesc→Bool
 | .struct _| .array _ _=>true
 |_=>false
def aqQ (P:Program) (t:TypeId):Option (Bool×Nat×Nat×Value):=
 match P.info? t,P.underlying t with
 |some i,some d=>i.zero.map fun z=>(adC d,i.size,i.bytes,z)
 |_,_=>none
class Ty (P:Program) (t:TypeId) (agg:outParam Bool) (sz bytes:outParam Nat) (z:outParam Value):Prop where
 h:aqQ P t=some (agg,sz,bytes,z)
 hz:z.cells.size=sz
def JM (P:Program) (s:TypeId) (f:Nat):Option (Nat×Nat):=
 match P.underlying s with
 |some (.struct fs)=>(fs[f]?).map fun d=>(d.offset,P.cellsOf d.type)
 |_=>none
class jV (P:Program) (s:TypeId) (f:Nat) (off sz:outParam Nat):Prop where
 h:JM P s f=some (off,sz)
 pos:0<sz
class nH (P:Program) (t:TypeId) (e:outParam TypeId):Prop where
 h:P.underlying t=some (.slice e)
class yV (P:Program) (t:TypeId):Prop where
 h:P.underlying t=some .string
class JN (P:Program) (t:TypeId) (k:outParam IntKind):Prop where
 h:P.underlying t=some (.int k)
class Mp (P:Program) (t:TypeId) (k e:outParam TypeId):Prop where
 h:P.underlying t=some (.map k e)
class bX (P:Program) (f:FuncId):Prop where
 h:((P.funcs[f]?).map fun fn=>(fn.body.isSome,fn.name== "runtime.NumGoroutine"))=some (true,false)
class Zr (P:Program) (t:TypeId) (zc:outParam (List Value)):Prop where
 h: ∃ agg sz bytes z,Ty P t agg sz bytes z∧z.cells=zc.toArray
theorem Ty.info {P:Program} {t:TypeId} {agg:Bool} {sz bytes:Nat} {z:Value} (h:Ty P t agg sz bytes z): ∃ i d,P.info? t=some i∧P.underlying t=some d∧adC d=agg∧i.size=sz∧i.bytes=bytes∧i.zero=some z:=by
 have h:=h.h;unfold aqQ at h;split at h
 ·rename_i i d hi hd;obtain⟨z',hz,e⟩:=ck.1 h;simp only[cr] at e;obtain⟨e1,e2,e3,rfl⟩:=e;exact⟨i,d,hi,hd,e1,e2,e3,hz⟩
 ·cases h
theorem QC {P:Program} {t:TypeId} {agg:Bool} {sz bytes:Nat} {z:Value} (h:Ty P t agg sz bytes z) (w:World):(isAgg t).run P w= .ok agg w:=by
 obtain⟨i,d,_,hd,ha,_⟩:=h.info;subst ha;simp only[isAgg,Sem.run_bind,run_underlying hd,Result.andThen_ok];cases d<;>rfl
theorem cV {P:Program} {t:TypeId} {agg:Bool} {sz bytes:Nat} {z:Value} (h:Ty P t agg sz bytes z) (w:World):(sizeOf t).run P w= .ok sz w:=by
 obtain⟨i,d,hi,_,_,hs,_⟩:=h.info;simp [sizeOf,typeInfo,Sem.run_bind,hi,hs]
theorem qG {P:Program} {t:TypeId} {agg:Bool} {sz bytes:Nat} {z:Value} (h:Ty P t agg sz bytes z) (w:World):(zeroValue t).run P w= .ok z w:=by
 obtain⟨i,d,hi,_,_,_,_,hz⟩:=h.info;simp [zeroValue,typeInfo,Sem.run_bind,hi,hz]
def valOf (agg:Bool) (vs:List Value) (v:Value):Prop:=if agg=true then v= .agg vs.toArray else vs=[v]
theorem nU (v:Value):valOf false [v] v:=rfl
theorem qH (vs:List Value):valOf true vs (.agg vs.toArray):=rfl
theorem kS {P:Program} {t:TypeId} {agg:Bool} {sz bytes:Nat} {z v:Value} (h:Ty P t agg sz bytes z) (w:World) (a:Addr) (vs:List Value) (hl:vs.length=sz) (hc: ∀ j u,vs[j]? =some u→w.cell? (a.add j)=some u) (hv:valOf agg vs v):(loadVar t a).run P w= .ok v w:=by
 cases agg with
 |true=>
  have hv':v= .agg vs.toArray:=hv;subst hv';subst hl;simp [loadVar,QC h,cV h,run_loadCells_list (P:=P) (w:=w) a vs hc]
 |false=>
  have hv':vs=[v]:=hv;subst hv';have:=hc 0 v rfl;have ea:a.add 0=a:=by simp [Addr.add]
  rw[ea] at this;simp [loadVar,QC h,load,Sem.run,this]
def aH (b i:Nat):Value:= .pointer (some ⟨b,i,none⟩)
def pD (v:Value) (i sz j:Nat):Addr:=match v with
 | .slice (some a) _ _=>a.add (i*sz+j)
 |_=>default
def bC (v:Value) (i sz j:Nat):Value:= .pointer (some (pD v i sz j))
theorem addr_add (b i j:Nat):(⟨b,i,none⟩:Addr).add j=⟨b,i+j,none⟩:=by unfold Addr.add;split<;>simp_all
theorem add_add (a:Addr) (i j:Nat) (h:a.spot=none):(a.add i).add j=a.add (i+j):=by
 obtain⟨b,o,s⟩:=a;simp only at h;subst h;rw[addr_add,addr_add,addr_add,bw]
def eQ:List Value→Nat→List Value→List Value
 |cs,_,[]=>cs
 |[],_,_=>[]
 |_::cs,0,u::us=>u::eQ cs 0 us
 |c::cs,i+1,us=>c::eQ cs i us
theorem iO: ∀ (cs:List Value) (i:Nat) (us:List Value),i+us.length≤cs.length→eQ cs i us=cs.take i++us++cs.drop (i+us.length):=by
 intro cs;induction cs with
 |nil=>
  intro i us h;have h1:us=[]:=List.eq_nil_of_length_eq_zero (by simp only[List.length_nil] at h;omega);subst h1;cases i<;>simp [eQ]
 |cons c cs ih=>
  intro i us h;cases us with
  |nil=>cases i<;>simp [eQ]
  |cons u us=>
   cases i with
   |zero=>simp only[eQ,ih 0 us (by simpa using h)];simp
   |succ i=>
    have:=ih i (u::us) (by simp at h ⊢;omega);simp only[eQ,this];simp [Nat.succ_add]
theorem JO: ∀ (cs:List Value) (i:Nat) (us:List Value),(eQ cs i us).length=cs.length:=by
 intro cs;induction cs with
 |nil=>intro i us;cases us<;>cases i<;>rfl
 |cons c cs ih=>
  intro i us;cases us with
  |nil=>cases i<;>rfl
  |cons u us=>cases i<;>simp [eQ,ih]
section
variable {P:Program} {n:Nat} {F:dF} {H R:List Ent} {o:Oper} {x y z:Operand} {v u z':Value} {T:TypeId}
theorem ET {b i f off fs:Nat} [hf:jV P T f off fs] (ho:o.op= .fieldAddr T x f) (hx:ev F x=some (aH b i)) {k:Nat} (hk:i+off=k):Qt P n o F H (aH b k):=fun a w ha _=>by
 subst hk;have h1:=hf.h;unfold JM at h1;split at h1
 ·rename_i fs' hu;obtain⟨d,hd,e⟩:=ck.1 h1;simp only[cr] at e;have hs:0<P.cellsOf d.type:=by rw[e.2];exact hf.pos
  have hs2: ∃ i,P.info? d.type=some i∧i.size=P.cellsOf d.type:=by
   unfold Program.cellsOf at hs ⊢;cases hq:P.info? d.type with
   |none=>simp [hq] at hs
   |some i=>exact⟨i,rfl,by simp⟩
  obtain⟨i',hi1,hi2⟩:=hs2;simp [execOp,ho,ha.eval hx,aH,Instr.fieldAt,run_underlying hu,hd,Instr.sureAddr,fieldPlace,sizeOf,typeInfo,hi1,hi2,e.1,e.2,ff hf.pos,addr_add]
 ·cases h1
theorem EU {i sz j f off fs:Nat} {q:Option Addr} {m c:Nat} [hf:jV P T f off fs] (ho:o.op= .fieldAddr T x f) (hx:ev F x=some (bC v i sz j)) {k:Nat} (hk:j+off=k) (hv: ∀ w,aD H w→ ∀ a m c,v= .slice (some a) m c→a.spot=none) (hq:v= .slice q m c) (hqs: ∀ w,aD H w→q≠none):Qt P n o F H (bC v i sz k):=fun a w ha hw=>by
 subst hk;have h1:=hf.h;unfold JM at h1;split at h1
 ·rename_i fs' hu;obtain⟨d,hd,e⟩:=ck.1 h1;simp only[cr] at e;have hs:0<P.cellsOf d.type:=by rw[e.2];exact hf.pos
  have hs2: ∃ i,P.info? d.type=some i∧i.size=P.cellsOf d.type:=by
   unfold Program.cellsOf at hs ⊢;cases hq:P.info? d.type with
   |none=>simp [hq] at hs
   |some i=>exact⟨i,rfl,by simp⟩
  obtain⟨i',hi1,hi2⟩:=hs2;subst hq;cases q with
  |none=>exact absurd rfl (hqs w hw)
  |some ad=>
   have hsp:=hv w hw ad m c rfl;simp [execOp,ho,ha.eval hx,bC,pD,Instr.fieldAt,run_underlying hu,hd,Instr.sureAddr,fieldPlace,sizeOf,typeInfo,hi1,hi2,e.1,e.2,ff hf.pos,add_add ad _ _ hsp,bw]
 ·cases h1
theorem vD {b:Nat} {cs:List Value} {t:TypeId} {w:World} (h:(box b cs t).holds w) (i:Nat):w.cell? ⟨b,i,none⟩=cs[i]? :=by
 have h':w.heap[b]? =some (.cells cs.toArray t (0,0)):=h;rw[cell_of_row _ _ _ _ _ _ h'];simp
theorem rQ {b i sz by':Nat} {agg:Bool} {cs vs:List Value} {t:TypeId} [ht:Ty P T agg sz by' z'] (ho:o.op= .load T x) (hx:ev F x=some (aH b i)) (p:bF (box b cs t) H R) (hvs:(cs.drop i).take sz=vs) (hl:vs.length=sz) (hv:valOf agg vs v):Qt P n o F H v:=fun a w ha hw=>by
 have hb := hw.1 _ p.mem;have := kS ht w ⟨b, i, none⟩ vs hl (fun j u hj => by
  rw[addr_add,vD hb];subst hvs;rw[bp] at hj;split at hj
  ·rw[bq] at hj;exact hj
  ·cases hj) hv
 simp [execOp,ho,ha.eval hx,aH,Instr.loadAt,Instr.sureAddr,this]
theorem xD {b sz by':Nat} {cs:List Value} {t:TypeId} [ht:Ty P T true sz by' z'] (ho:o.op= .load T x) (hx:ev F x=some (aH b 0)) (p:bF (box b cs t) H R) (hl:cs.length=sz):Qt P n o F H (.agg cs.toArray):=
 rQ ho hx p (by rw[du,dc (by omega)]) hl (qH cs)
theorem pE {b i by':Nat} {cs:List Value} {t:TypeId} [ht:Ty P T false 1 by' z'] (ho:o.op= .load T x) (hx:ev F x=some (aH b i)) (p:bF (box b cs t) H R) (hv:cs[i]? =some v):Qt P n o F H v:=
 rQ ho hx p (by rw[cu (ah.1 hv).1,(ah.1 hv).2];rfl) rfl (nU v)
theorem UB {w:World} {sz:Nat} {v:Value} {rows:List (List Value)} (h:bM w sz v rows) {i:Nat} {r:List Value} (hr:rows[i]? =some r): ∃ a m c,v= .slice (some a) m c∧a.spot=none∧m=rows.length∧r.length=sz∧ ∀ (j:Nat) (u:Value),r[j]? =some u→w.cell? (pD v i sz j)=some u:=by
 rcases h with⟨rfl,_⟩|⟨b,off,cap,rfl,h1,h2,h3,h4,h5⟩
 ·simp at hr
 ·refine⟨_,_,_,rfl,rfl,rfl,(h5 i r hr).1,fun j u hj=> ?_⟩;have:=(h5 i r hr).2 j u hj;simp only[pD,addr_add];rw[←bw];exact this
theorem akI {i sz s by' j:Nat} {agg:Bool} {rows:List (List Value)} {r vs:List Value} [ht:Ty P T agg s by' z'] (ho:o.op= .load T x) (hx:ev F x=some (bC u i sz j)) (p:bF (sl sz u rows) H R) (hr:rows[i]? =some r) (hvs:(r.drop j).take s=vs) (hl:vs.length=s) (hv:valOf agg vs v):Qt P n o F H v:=fun a w ha hw=>by
 have hb : bM w sz u rows := hw.1 _ p.mem;obtain ⟨ad, m, c, rfl, hsp, _, _, hcell⟩ := UB hb hr;have := kS ht w (pD (.slice (some ad) m c) i sz j) vs hl (fun k u hj => by
  subst hvs;rw[bp] at hj;split at hj
  ·rw[bq] at hj;have:=hcell _ _ hj;simp only[pD] at this ⊢;rw[add_add _ _ _ hsp,bw];exact this
  ·cases hj) hv
 simp [execOp,ho,ha.eval hx,bC,Instr.loadAt,Instr.sureAddr,this]
theorem JP {α:Type} {f:α→List Value} {xs:List α} {q:α} {i sz s by' j:Nat} {agg:Bool} {vs:List Value} [ht:Ty P T agg s by' z'] (ho:o.op= .load T x) (hx:ev F x=some (bC u i sz j)) (p:bF (sl sz u (xs.map f)) H R) (hr:xs[i]? =some q) (hvs:((f q).drop j).take s=vs) (hl:vs.length=s) (hv:valOf agg vs v):Qt P n o F H v:=
 akI ho hx p (by rw[al,hr];rfl) hvs hl hv
theorem EV {α:Type} {f:α→List Value} {xs:List α} {q:α} {i sz by' j:Nat} [ht:Ty P T false 1 by' z'] (ho:o.op= .load T x) (hx:ev F x=some (bC u i sz j)) (p:bF (sl sz u (xs.map f)) H R) (hr:xs[i]? =some q) (hv:(f q)[j]? =some v):Qt P n o F H v:=
 JP ho hx p hr (by rw[cu (ah.1 hv).1,(ah.1 hv).2];rfl) rfl (nU v)
theorem EW {α:Type} {f:α→List Value} {xs:List α} {q:α} {i sz by':Nat} [ht:Ty P T true sz by' z'] (ho:o.op= .load T x) (hx:ev F x=some (bC u i sz 0)) (p:bF (sl sz u (xs.map f)) H R) (hr:xs[i]? =some q) (hl:(f q).length=sz):Qt P n o F H (.agg (f q).toArray):=
 JP ho hx p hr (by rw[du,dc (by omega)]) hl (qH _)
theorem yW {w:World} {B e sz m:Nat} {v:Value} {xs:List Value} (h:w.ownsRow B e sz v m xs) {i j:Nat} {u:Value} (hj:xs[i*sz+j]? =some u): ∃ g c,v= .slice (some ⟨g,0,none⟩) m c∧w.cell? (pD v i sz j)=some u:=by
 have hl:=(ah.1 hj).1;rcases h.2 with⟨rfl,h0⟩|⟨g,cap,cur,rfl,hb,hg,h1,h2,h3,h4⟩
 ·rw[h.1,h0] at hl;simp at hl
 ·refine⟨g,cap,rfl, ?_⟩;simp only[pD,addr_add,di];rw[cell_of_row _ _ _ _ _ _ hg, ←Array.getElem?_toList];rw[←h4,bp] at hj;split at hj
  ·exact hj
  ·cases hj
theorem adD {i sz s by' j m e:Nat} {agg:Bool} {xs vs:List Value} [ht:Ty P T agg s by' z'] (ho:o.op= .load T x) (hx:ev F x=some (bC u i sz j)) (p:bF (own u e sz m xs) H R) (hvs:(xs.drop (i*sz+j)).take s=vs) (hl:vs.length=s) (hs:0<s) (hv:valOf agg vs v):Qt P n o F H v:=fun a w ha hw=>by
 have hb:w.ownsRow 0 e sz u m xs:=hw.1 _ p.mem;have hc: ∀ k u',vs[k]? =some u'→xs[i*sz+(j+k)]? =some u':=fun k u' hj=>by
  subst hvs;rw[bp] at hj;split at hj
  ·rw[bq] at hj;rw[←bw];exact hj
  ·cases hj
 obtain ⟨g, c, rfl, _⟩ := yW hb (hc 0 _ (aj (by omega)));have := kS ht w (pD (.slice (some ⟨g, 0, none⟩) m c) i sz j) vs hl (fun k u' hj => by
  obtain ⟨g', c', e', hcell⟩ := yW hb (hc k u' hj);simp only [pD] at hcell ⊢;rw [add_add _ _ _ rfl, bw];exact hcell) hv
 simp [execOp,ho,ha.eval hx,bC,Instr.loadAt,Instr.sureAddr,this]
theorem akJ {α:Type} {f:α→List Value} {sz:Nat} (hf: ∀ x,(f x).length=sz) {ys:List α} {i:Nat} {q:α} (hq:ys[i]? =some q) {j s:Nat} (h:j+s≤sz):((flat f ys).drop (i*sz+j)).take s=((f q).drop j).take s:=by
 apply da;intro k;rw[bp,bp];split
 ·rw[bq,bq,bw];obtain⟨u,hu⟩: ∃ u,(f q)[j+k]? =some u:=⟨_,aj (by rw[hf];omega)⟩;rw[hu,nN f sz hf ys i q hq (j+k) u hu]
 ·rfl
theorem EX {α:Type} {f:α→List Value} {ys:List α} {q:α} {i sz s by' j m e:Nat} {agg:Bool} {vs:List Value} [ht:Ty P T agg s by' z'] (ho:o.op= .load T x) (hx:ev F x=some (bC u i sz j)) (p:bF (own u e sz m (flat f ys)) H R) (hf: ∀ x,(f x).length=sz) (hr:ys[i]? =some q) (hvs:((f q).drop j).take s=vs) (hl:vs.length=s) (hs:0<s) (hv:valOf agg vs v):Qt P n o F H v:=by
 refine adD ho hx p ?_ hl hs hv;have h9:j+s≤sz:=by
  have:=congrArg List.length hvs;rw[b9,eu,hf,hl] at this;omega
 rw[akJ hf hr h9,hvs]
theorem yX {α:Type} {f:α→List Value} {ys:List α} {q:α} {i sz by' j m e:Nat} [ht:Ty P T false 1 by' z'] (ho:o.op= .load T x) (hx:ev F x=some (bC u i sz j)) (p:bF (own u e sz m (flat f ys)) H R) (hf: ∀ x,(f x).length=sz) (hr:ys[i]? =some q) (hv:(f q)[j]? =some v):Qt P n o F H v:=
 EX ho hx p hf hr (by rw[cu (ah.1 hv).1,(ah.1 hv).2];rfl) (vs:=[v]) rfl Nat.zero_lt_one (nU v)
theorem yY {α:Type} {f:α→List Value} {ys:List α} {q:α} {i sz by' m e:Nat} [ht:Ty P T true sz by' z'] (ho:o.op= .load T x) (hx:ev F x=some (bC u i sz 0)) (p:bF (own u e sz m (flat f ys)) H R) (hf: ∀ x,(f x).length=sz) (hr:ys[i]? =some q) (hs:bh 0 sz=true):Qt P n o F H (.agg (f q).toArray):=
 EX ho hx p hf hr (by rw[du,dc (by rw[hf];omega)]) (hf q) (by simpa using hs) (qH _)
theorem CD {t e:TypeId} {ad:Addr} {m c i:Nat} {k:IntKind} {sz:Nat} [ht:nH P t e] {agg:Bool} {by':Nat} [hs:Ty P e agg sz by' z'] (hi:i<m) (w:World):(Instr.indexAt t (.slice (some ad) m c) (.int k (i:Int))).run P w= .ok (.pointer (some (ad.add (i*sz)))) w:=by
 have h1:(0:Int)≤(i:Int)∧(i:Int)<(m:Int):=by omega
 simp only[Instr.indexAt,asIntOf,run_underlying ht.h,Sem.run_bind,Sem.run_pure,Result.andThen_ok,if_pos h1,cV hs,Int.toNat_natCast]
theorem jF {t e sz i by':Nat} {k:IntKind} {idx:Int} {agg:Bool} {rows:List (List Value)} [ht:nH P t e] [hs:Ty P e agg sz by' z'] (ho:o.op= .indexAddr t x y) (hx:ev F x=some v) (hy:ev F y=some (.int k idx)) (p:bF (sl sz v rows) H R) (hidx:idx=(i:Int)) (hi:i<rows.length):Qt P n o F H (bC v i sz 0):=fun a w ha hw=>by
 subst hidx;have hb:bM w sz v rows:=hw.1 _ p.mem;obtain⟨ad,m,c,rfl,hsp,rfl,_⟩:=UB hb (aj hi);simp only[execOp,ho,ha.eval hx,ha.eval hy,Sem.run_bind,Sem.run_pure,Result.andThen_ok,CD (P:=P) (t:=t) hi,bC,pD,dm]
theorem bR {t e e' sz i m by':Nat} {k:IntKind} {idx:Int} {agg:Bool} {xs:List Value} [ht:nH P t e] [hs:Ty P e agg sz by' z'] (ho:o.op= .indexAddr t x y) (hx:ev F x=some v) (hy:ev F y=some (.int k idx)) (p:bF (own v e' sz m xs) H R) (hidx:idx=(i:Int)) (hi:i<m):Qt P n o F H (bC v i sz 0):=fun a w ha hw=>by
 subst hidx;have hb:w.ownsRow 0 e' sz v m xs:=hw.1 _ p.mem;rcases hb.2 with⟨_,h0⟩|⟨g,cap,cur,rfl,_⟩
 ·omega
 ·simp only[execOp,ho,ha.eval hx,ha.eval hy,Sem.run_bind,Sem.run_pure,Result.andThen_ok,CD (P:=P) (t:=t) hi,bC,pD,dm]
theorem EY {t e m c:Nat} {q:Option Addr} [ht:nH P t e] (ho:o.op= .call { callee:= .builtin .len,args:= #[x],argTypes:= #[t] }) (hx:ev F x=some (.slice q m c)):Qt P n o F H (.int .i64 (m:Int)):=fun a w ha hw=>by
 simp [execOp,ho,resolve,invoke,builtin,ha.eval hx,Builtin.len_,run_underlying ht.h,Sem.run_bind,goInt]
theorem CE {t:Nat} {s:ByteArray} [ht:yV P t] (ho:o.op= .call { callee:= .builtin .len,args:= #[x],argTypes:= #[t] }) (hx:ev F x=some (.string s)):Qt P n o F H (.int .i64 (s.size:Int)):=fun a w ha hw=>by
 simp [execOp,ho,resolve,invoke,builtin,ha.eval hx,Builtin.len_,run_underlying ht.h,Sem.run_bind,goInt]
theorem EZ {t e m c:Nat} {q:Option Addr} [ht:nH P t e] (ho:o.op= .call { callee:= .builtin .cap,args:= #[x],argTypes:= #[t] }) (hx:ev F x=some (.slice q m c)):Qt P n o F H (.int .i64 (c:Int)):=fun a w ha hw=>by
 simp [execOp,ho,resolve,invoke,builtin,ha.eval hx,Builtin.cap_,run_underlying ht.h,Sem.run_bind,goInt]
theorem aCK {t:Nat} {k:IntKind} {i j:Int} (ho:o.op= .call { callee:= .builtin .min,args:= #[x,y],argTypes:= #[t,t] }) (hx:ev F x=some (.int k i)) (hy:ev F y=some (.int k j)):Qt P n o F H (.int k (min i j)):=fun a w ha hw=>by
 simp [execOp,ho,resolve,invoke,builtin,ha.eval hx,ha.eval hy,Builtin.min_,Builtin.min2,TX]
theorem adE {a':Addr} (ho:o.op= .nilCheck x) (hx:ev F x=some (.pointer (some a'))):Qt P n o F H (.pointer (some a')):=fun a w ha hw=>by
 simp [execOp,ho,ha.eval hx]
theorem CF {s t:ByteArray} {T T':TypeId} (ho:o.op= .binOp .eql T x y T') (hx:ev F x=some (.string s)) (hy:ev F y=some (.string t)):Qt P n o F H (.bool (s.toList==t.toList)):=fun a w ha hw=>by
 simp [execOp,ho,ha.eval hx,ha.eval hy,eqGuard,binOp,Op.stringOp]
theorem CG {s t:ByteArray} {T T':TypeId} (ho:o.op= .binOp .neq T x y T') (hx:ev F x=some (.string s)) (hy:ev F y=some (.string t)):Qt P n o F H (.bool (!(s.toList==t.toList))):=fun a w ha hw=>by
 simp [execOp,ho,ha.eval hx,ha.eval hy,eqGuard,binOp,Op.stringOp]
theorem fD (w:World) (ob:Obj):mP (fun _=>False) w (w.alloc ob):=⟨rfl,rfl,rfl,by simp,fun b hb _=>heap_alloc_old w ob hb⟩
theorem ahI {us:List Value} (ho:o.op= .box T x) (hx:ev F x=some v) (hus:v.cells=us.toArray):cJ P n o F H fun u H'=> ∃ b,u=aH b 0∧H'=box b us T::H:=fun Q a w next ha hw hn=>by
 unfold Oper.wp;simp only[execOp,ho,ha.eval hx,Instr.box,newVar,newRow,newObj,Sem.run_bind,Sem.run,Sem.run_pure,Result.andThen_ok,Oper.upon];refine hn _ _ _ ⟨w.heap.size,rfl,rfl⟩ (aD.new hw (fD w (.cells v.cells T)) ?_ fun b hb=>by (have:b=w.heap.size:=hb);omega);show (w.alloc (.cells v.cells T)).heap[w.heap.size]? =_;rw[heap_alloc_new,hus]
theorem pF {us:List Value} (ho:o.op= .box T x) (hx:ev F x=some (.agg us.toArray)):cJ P n o F H fun u H'=> ∃ b,u=aH b 0∧H'=box b us T::H:=ahI ho hx rfl
theorem QD {v:Value} (h:v.oneCell'=true):v.cells= #[v]:=by cases v<;>first|rfl|(simp [Value.oneCell'] at h)
theorem pG (ho:o.op= .box T x) (hx:ev F x=some v) (hv:v.oneCell'=true):cJ P n o F H fun u H'=> ∃ b,u=aH b 0∧H'=box b [v] T::H:=ahI ho hx (QD hv)
theorem akK {us:List Value} {agg:Bool} {sz by':Nat} [ht:Ty P T agg sz by' z'] (ho:o.op= .alloc T) (hus:z'.cells=us.toArray):cJ P n o F H fun u H'=> ∃ b,u=aH b 0∧H'=box b us T::H:=fun Q a w next ha hw hn=>by
 unfold Oper.wp;simp only[execOp,ho,Instr.alloc,qG ht,newVar,newRow,newObj,Sem.run_bind,Sem.run,Sem.run_pure,Result.andThen_ok,Oper.upon];refine hn _ _ _ ⟨w.heap.size,rfl,rfl⟩ (aD.new hw (fD w (.cells z'.cells T)) ?_ fun b hb=>by (have:b=w.heap.size:=hb);omega);show (w.alloc (.cells z'.cells T)).heap[w.heap.size]? =_;rw[heap_alloc_new,hus]
theorem iI {us:List Value} [hz:Zr P T us] (ho:o.op= .alloc T):cJ P n o F H fun u H'=> ∃ b,u=aH b 0∧H'=box b us T::H:=by
 obtain⟨agg,sz,by',z,ht,hc⟩:=hz.h;exact akK (ht:=ht) ho hc
theorem nO (w:World) (g:Nat) (cs:Array Value) (S:Nat→Prop) (hS:S g):mP S w (w.setRow g cs):=⟨rfl,rfl,rfl,by simp [World.setRow],fun b _ hb=>setRow_other w g b cs (fun e=>hb (e ▸ hS))⟩
theorem QE {agg:Bool} {sz by':Nat} (ht:Ty P T agg sz by' z') (w:World) (g off:Nat) (t:TypeId) (cs us:List Value) (hg:w.heap[g]? =some (.cells cs.toArray t (0,0))) (hus:v.cells=us.toArray) (hl:us.length=sz) (hfit:off+us.length≤cs.length) (h1: ∀ u∈us,u.oneCell'=true):(storeVar T ⟨g,off,none⟩ v).run P w= .ok () (w.setRow g (eQ cs off us).toArray):=by
 have hst:=run_storeCells_at P g off t us 0 cs.toArray w hg (by simpa using hfit) h1;simp only[dm] at hst;rw[iO cs off us hfit];subst hl;simp only[storeVar,hus,cV ht,Sem.run_bind,Result.andThen_ok,db,ne_eq,not_true_eq_false,if_false];simpa using hst
theorem wL {agg:Bool} {sz by':Nat} [ht:Ty P T agg sz by' z'] {b i:Nat} {cs us cs':List Value} {t:TypeId} (ho:o.op= .store T x y) (hx:ev F x=some (aH b i)) (hy:ev F y=some v) (hus:v.cells=us.toArray) (p:bF (box b cs t) H R) (hl:us.length=sz) (hfit:dv (i+us.length) cs.length=true) (h1:us.all (·.oneCell')=true) (hcs:eQ cs i us=cs'):cJ P n o F H fun u H'=>u=undef∧H'=box b cs' t::R:=fun Q a w next ha hw hn=>by
 subst hcs;have hw':=hw.perm p.perm;have hb:=hw'.head;have:=QE ht w b i t cs us hb hus hl (bu hfit) (fun u hu=>fa.1 h1 u hu);unfold Oper.wp;simp only[execOp,ho,ha.eval hx,ha.eval hy,aH,Instr.storeAt,Instr.sureAddr,Sem.run_bind,Sem.run_pure,Result.andThen_ok,this,Oper.upon];exact hn _ _ _ ⟨rfl,rfl⟩ (aD.pA hw' rfl (nO w b _ _ rfl) (setRow_heap w b _ _ t _ hb) fun k hk=> .inl hk)
theorem cX {sz by':Nat} [ht:Ty P T true sz by' z'] {b i:Nat} {cs us cs':List Value} {t:TypeId} (ho:o.op= .store T x y) (hx:ev F x=some (aH b i)) (hy:ev F y=some (.agg us.toArray)) (p:bF (box b cs t) H R) (hl:us.length=sz) (hfit:dv (i+us.length) cs.length=true) (h1:us.all (·.oneCell')=true) (hcs:eQ cs i us=cs'):cJ P n o F H fun u H'=>u=undef∧H'=box b cs' t::R:=wL ho hx hy rfl p hl hfit h1 hcs
theorem bW {by':Nat} [ht:Ty P T false 1 by' z'] {b i:Nat} {cs cs':List Value} {t:TypeId} (ho:o.op= .store T x y) (hx:ev F x=some (aH b i)) (hy:ev F y=some v) (h1:v.oneCell'=true) (p:bF (box b cs t) H R) (hfit:bh i cs.length=true) (hcs:cs.set i v=cs'):cJ P n o F H fun u H'=>u=undef∧H'=box b cs' t::R:=by
 have hlt:i<cs.length:=by simpa using hfit
 refine wL ho hx hy (us:=[v]) (QD h1) p rfl (dw (by simp only[df];omega)) (by simp [h1]) ?_;rw[←hcs,iO _ _ _ (by simp only[df];omega),de,if_pos hlt];simp
theorem PE {agg:Bool} {sz s by':Nat} [ht:Ty P T agg s by' z'] {i j m e:Nat} {xs us xs':List Value} (ho:o.op= .store T x y) (hx:ev F x=some (bC v i sz j)) (hy:ev F y=some u) (hus:u.cells=us.toArray) (p:bF (own v e sz m xs) H R) (hl:us.length=s) (hm:i<m) (hfit:j+us.length≤sz) (h1:us.all (·.oneCell')=true) (hcs:eQ xs (i*sz+j) us=xs'):cJ P n o F H fun u H'=>u=undef∧H'=own v e sz m xs'::R:=fun Q a w next ha hw hn=>by
 subst hcs;have hw':=hw.perm p.perm;have hb:w.ownsRow 0 e sz v m xs:=hw'.head;rcases hb.2 with⟨_,h0⟩|⟨g,cap,cur,rfl,hb0,hg,h2,h3,h4,h5⟩
 ·omega
 ·have hmi:i*sz+sz≤m*sz:=by
   have h9:(i+1)*sz≤m*sz:=bz _ hm;rw[an,dq] at h9;exact h9
  have hmc:m*sz≤cap*sz:=bz _ h2;have hcl0:cur.toList.length=cap*sz:=by simpa using h4
  have hle:i*sz+j+us.length≤cur.toList.length:=by omega
  have hle2:i*sz+j+us.length≤xs.length:=by rw[hb.1];omega
  have:=QE (v:=u) ht w g (i*sz+j) e cur.toList us (by simpa using hg) hus hl hle (fun u hu=>fa.1 h1 u hu);unfold Oper.wp;simp only[execOp,ho,ha.eval hx,ha.eval hy,bC,pD,addr_add,di,Instr.storeAt,Instr.sureAddr,Sem.run_bind,Sem.run_pure,Result.andThen_ok,this,Oper.upon];refine hn _ _ _ ⟨rfl,rfl⟩ (aD.pA hw' rfl (nO w g _ _ rfl) ⟨by rw[JO];exact hb.1, .inr ⟨g,cap,_,rfl,hb0,setRow_heap w g _ _ e _ hg,h2,h3, ?_, ?_⟩⟩ fun k hk=> .inl hk)
  ·simp only[db,JO,Array.length_toList];exact h4
  ·have hxl:xs.length=m*sz:=hb.1;rw[iO _ _ _ hle,iO _ _ _ hle2, ←h5];apply da;intro k;have hcl:cur.toList.length=cap*sz:=by simpa using h4
   simp only[bp,cl,ag,b9,bq];rw[hcl]
   repeat' split
   all_goals (first|rfl|omega|(congr 1;omega))
theorem XK {α:Type} {f:α→List Value} {sz:Nat} (hf: ∀ x,(f x).length=sz) {ys:List α} {i:Nat} {q q':α} (hq:ys[i]? =some q) {j:Nat} {us:List Value} (hfit:j+us.length≤sz) (h:eQ (f q) j us=f q'):eQ (flat f ys) (i*sz+j) us=flat f (ys.set i q'):=by
 have hi:=(ah.1 hq).1;have hmi:i*sz+sz≤ys.length*sz:=by
  have h9:(i+1)*sz≤ys.length*sz:=bz _ hi;rw[an,dq] at h9;exact h9
 rw[iO _ _ _ (by rw[kB f sz hf];omega)];rw[iO _ _ _ (by rw[hf];omega)] at h;apply da;intro k;by_cases hk:k<ys.length*sz
 ·have hsz:0<sz:=by rcases ei sz with h0|h0;(subst h0;simp at hk);exact h0
  have hk1:k/sz<ys.length:=(dh hsz).2 hk;have hk2:k%sz<sz:=fc _ hsz;have hdm:k/sz*sz+k%sz=k:=by rw[ej];exact dp k sz
  obtain⟨y0,hy0⟩: ∃ y0,ys[k/sz]? =some y0:=⟨_,aj hk1⟩;by_cases hik:k/sz=i
  ·rw[hik] at hy0 hdm;have:(ys.set i q')[i]? =some q':=by rw[dj];simp [hi]
   obtain⟨u,hu⟩: ∃ u,(f q')[k%sz]? =some u:=⟨_,aj (by rw[hf];exact hk2)⟩;have e1:=nN f sz hf (ys.set i q') i q' this (k%sz) u hu;rw[hdm] at e1;rw[e1, ←hu, ←h];have hqy:q=y0:=by rw[hq] at hy0;exact bf hy0
   subst hqy;obtain⟨u0,hu0⟩: ∃ u,(f q)[k%sz]? =some u:=⟨_,aj (by rw[hf];exact hk2)⟩;have e0:=nN f sz hf ys i q hq (k%sz) u0 hu0;rw[hdm] at e0;have hfl:(flat f ys).length=ys.length*sz:=kB f sz hf ys;have hql:(f q).length=sz:=hf q;simp only[cl,ag,b9,bp,bq,hfl,hql];have hkk:k=i*sz+k%sz:=hdm.symm;by_cases c1:k%sz<j
   ·rw[if_pos (by omega),if_pos (by omega),if_pos (by omega),if_pos (by omega),if_pos (by omega),if_pos (by omega),e0,hu0]
   ·by_cases c2:k%sz<j+us.length
    ·rw[if_pos (by omega),if_neg (by omega),if_pos (by omega),if_neg (by omega)];congr 1;omega
    ·rw[if_neg (by omega),if_neg (by omega)];rw[show i*sz+j+us.length+(k-(min (i*sz+j) (ys.length*sz)+us.length))=k from by omega,show j+us.length+(k%sz-(min j sz+us.length))=k%sz from by omega,e0,hu0]
  ·have:(ys.set i q')[k/sz]? =some y0:=by rw[dj,if_neg (Ne.symm hik)];exact hy0
   obtain⟨u,hu⟩: ∃ u,(f y0)[k%sz]? =some u:=⟨_,aj (by rw[hf];exact hk2)⟩;have e1:=nN f sz hf (ys.set i q') (k/sz) y0 this (k%sz) u hu;have e0:=nN f sz hf ys (k/sz) y0 hy0 (k%sz) u hu;rw[hdm] at e0 e1;rw[e1];have hfl:(flat f ys).length=ys.length*sz:=kB f sz hf ys;simp only[cl,ag,b9,bp,bq,hfl];have hne:k<i*sz∨i*sz+sz≤k:=by
    rcases Nat.lt_or_ge (k/sz) i with h1|h1
    ·left;have h9:(k/sz+1)*sz≤i*sz:=bz _ h1;rw[an,dq] at h9;omega
    ·right;have h9:(i+1)*sz≤k/sz*sz:=bz _ (by omega);rw[an,dq] at h9;omega
   rcases hne with hne|hne
   ·rw[if_pos (by omega),if_pos (by omega),if_pos (by omega),e0]
   ·rw[if_neg (by omega),show i*sz+j+us.length+(k-(min (i*sz+j) (ys.length*sz)+us.length))=k from by omega,e0]
 ·have e1:(flat f (ys.set i q'))[k]? =none:=dz (by rw[kB f sz hf];simp;omega);rw[e1];apply dz;have hfl:(flat f ys).length=ys.length*sz:=kB f sz hf ys;simp only[ag,b9,eu,hfl];omega
theorem aG {α:Type} {f:α→List Value} {ys:List α} {q q':α} {agg:Bool} {sz s by':Nat} [ht:Ty P T agg s by' z'] {i j m e:Nat} {us:List Value} (ho:o.op= .store T x y) (hx:ev F x=some (bC v i sz j)) (hy:ev F y=some u) (hus:u.cells=us.toArray) (p:bF (own v e sz m (flat f ys)) H R) (hl:us.length=s) (hm:i<m) (hf: ∀ x,(f x).length=sz) (hq:ys[i]? =some q) (hfit:dv (j+us.length) sz=true) (h1:us.all (·.oneCell')=true) (hcs:eQ (f q) j us=f q'):cJ P n o F H fun u H'=>u=undef∧H'=own v e sz m (flat f (ys.set i q'))::R:=
 PE ho hx hy hus p hl hm (bu hfit) h1 (XK hf hq (bu hfit) hcs)
theorem qI {w:World} {B e sz m:Nat} {v:Value} {xs:List Value} (h:w.ownsRow B e sz v m xs): ∃ q cap,v= .slice q m cap:=by
 rcases h.2 with⟨rfl,rfl⟩|⟨g,cap,cur,rfl,_⟩
 ·exact⟨_,_,rfl⟩
 ·exact⟨_,_,rfl⟩
theorem XM {w w':World} {v:Value} (h:w.grownBy w' v.ownBlock):mP (fun k=>v.ownBlock=some k) w w':=⟨h.os,h.tape,h.output,h.size,fun b hb hn=>h.block b hb fun e=>hn e.symm⟩
theorem JQ {e sz by':Nat} {t:TypeId} (hT:iU P t e sz by' z') {w:World} (ty:TypeId) {α:Type} (f:α→List Value) (hf: ∀ y,(f y).length=sz) (hf1: ∀ y, ∀ u∈f y,u.oneCell'=true) (v u:Value) (m:Nat) (xs:List Value) (ys:List α) (hown:w.ownsRow 0 e sz v m xs) (hsl:bM w sz u (ys.map f)) (hbytes:(m+ys.length)*by'≤140737488355328) (h63:m+ys.length≤maxLen): ∃ v' w',(Builtin.append_ #[t,t] ty #[v,u]).run P w= .ok v' w'∧w'.ownsRow 0 e sz v' (m+ys.length) (xs++flat f ys)∧w.grownBy w' v.ownBlock∧(v'.ownBlock=v.ownBlock∨v'.ownBlock=some w.heap.size):=by
 by_cases hnil:u= .slice none 0 0
 ·subst hnil;have h0:ys=[]:=by
   rcases hsl with⟨h0,_⟩|⟨b,off,cap,h0,_⟩
   ·simpa using h0
   ·simp at h0
  subst h0;exact⟨v,w,sS hT hown,by simpa [flat] using hown,xC _ _, .inl rfl⟩
 ·obtain⟨h1,h2,h3,i,hi1,hi2,hi3,hi4⟩:=hT;obtain⟨q,cap,b,off,rfl,hq,hc⟩:=hsl.view;simp only[List.length_map] at hq hnil ⊢;have hqs: ∃ ad,q=some ad:=by
   cases q with
   |some ad=>exact⟨ad,rfl⟩
   |none=>
    exfalso;rcases hsl with⟨h0,hv⟩|⟨b,off,cap,h0,_⟩
    ·have h9:ys=[]:=by simpa using h0
     subst h9;rcases hv with hv|⟨_,_,hv⟩
     ·simp at hv;subst hv;exact hnil rfl
     ·simp at hv
    ·simp at h0
  obtain⟨ad,rfl⟩:=hqs;have hnews: ∀ j y,(flat f ys)[j]? =some y→w.cell? (ad.add j)=some y:=by
   intro j y hj;have hjl:=(ah.1 hj).1;rw[kB f sz hf] at hjl;have hi:j/sz<ys.length:=(dh h3).2 hjl;have hm:j%sz<sz:=fc _ h3;obtain⟨y0,hy0⟩: ∃ y0,ys[j/sz]? =some y0:=⟨_,aj hi⟩;obtain⟨u,hu⟩: ∃ u,(f y0)[j%sz]? =some u:=⟨_,aj (by rw[hf];exact hm)⟩;have qE:=nN f sz hf ys (j/sz) y0 hy0 (j%sz) u hu;have hdm:j/sz*sz+j%sz=j:=by rw[ej];exact dp j sz
   rw[hdm,hj] at qE;have hyu:=bf qE;subst hyu;obtain⟨hqa,_⟩:=hq (j/sz) hi;have hqa2:=bf hqa;subst hqa2;have hcell:=hc (j/sz) (f y0) (by rw[al,hy0];rfl) (j%sz) y hu;rw[addr_add, ←hdm, ←bw];exact hcell
  have hone: ∀ u∈flat f ys,u.oneCell'=true:=by
   intro u hu;unfold flat at hu;obtain⟨l,hl,hul⟩:=List.mem_flatten.1 hu;obtain⟨y,_,rfl⟩:=List.mem_map.1 hl;exact hf1 y u hul
  obtain⟨v',w',hr,g1,g2,_,g3⟩:=run_append_own_at (P:=P) (w:=w) 0 t ty e i z' sz by' h1 hi1 hi2 hi3 hi4 h2 h3 v m xs hown ad ys.length cap (flat f ys) (kB f sz hf ys) hnews hone h63 hbytes (fg _)
  exact⟨v',w',hr,g1,g2,g3⟩
theorem xE {t e sz by':Nat} {agg:Bool} (ht:nH P t e) (hs:Ty P e agg sz by' z') (hp:bh 0 sz=true):iU P t e sz by' z':=by
 obtain⟨i,d,hi,_,_,h1,h2,h3⟩:=hs.info;exact⟨ht.h,hs.hz,by simpa using hp,i,hi,h3,h1,h2⟩
theorem vE {w w':World} {v v':Value} {e sz m m':Nat} {xs xs':List Value} (hw:aD (own v e sz m xs::R) w) (hg:w.grownBy w' v.ownBlock) (hn:w'.ownsRow 0 e sz v' m' xs') (hb:v'.ownBlock=v.ownBlock∨v'.ownBlock=some w.heap.size):aD (own v' e sz m' xs'::R) w':=
 aD.pA hw rfl (XM hg) hn fun b hb'=>by
  have hb2:v'.ownBlock=some b:=hb';rcases hb with h|h
  ·exact .inl (show v.ownBlock=some b from h.symm.trans hb2)
  ·rw[h] at hb2;have:=bf hb2;exact .inr (by omega)
theorem gJ {t e sz by' m cnt:Nat} {agg:Bool} [ht:nH P t e] [hs:Ty P e agg sz by' z'] {α:Type} {f:α→List Value} {ys:List α} {xs:List Value} (ho:o.op= .call { callee:= .builtin .append,args:= #[x,y],argTypes:= #[t,t] }) (hx:ev F x=some v) (hy:ev F y=some u)
  (p:bF (own v e sz m xs) H R) {S:List Ent} (q:bF (sl sz u (ys.map f)) R S) (hf: ∀ y,(f y).length=sz) (hf1: ∀ y, ∀ u∈f y,u.oneCell'=true) (hsz:bh 0 sz=true) (hb:(m+ys.length)*by'≤140737488355328) (h63:m+ys.length≤maxLen):
  cJ P n o F H fun r H'=> ∃ q' cap',r= .slice q' (m+ys.length) cap'∧H'=own (.slice q' (m+ys.length) cap') e sz (m+ys.length) (xs++flat f ys)::R:=fun Q a w next ha hw hn=>by
 have hw':=hw.perm p.perm;obtain⟨v',w',hr,g1,g2,g3⟩:=JQ (xE ht hs hsz) o.type f hf hf1 v u m xs ys hw'.head (hw'.tail.1 _ q.mem) hb h63;obtain⟨q',cap',rfl⟩:=qI g1;unfold Oper.wp;simp only[execOp,ho,resolve,invoke,builtin,dn,eh,eo,ha.eval hx,ha.eval hy,Sem.run_bind,Sem.run_pure,Result.andThen_ok,hr,Oper.upon];exact hn _ _ _ ⟨q',cap',rfl,rfl⟩ (vE hw' g2 g1 g3)
theorem axX (w:World) (e sz:Nat):w.ownsRow 0 e sz (.slice none 0 0) 0 []:=World.ownsRow_nil _ _ _ _
theorem aY (H:List Ent) (e sz:Nat):HSub H (own (.slice none 0 0) e sz 0 []::H):=fun w h=>by
 refine⟨fun f hf=> ?_,List.pairwise_cons.2 ⟨fun f hf _ b h1 _=>(by cases h1),h.2⟩⟩;rcases List.mem_cons.1 hf with rfl|hf
 ·exact axX w e sz
 ·exact h.1 f hf
theorem oA {t e sz by':Nat} {agg:Bool} [ht:nH P t e] [hs:Ty P e agg sz by' z'] {α:Type} {f:α→List Value} {ys:List α} (ho:o.op= .call { callee:= .builtin .append,args:= #[x,y],argTypes:= #[t,t] }) (hx:ev F x=some (.slice none 0 0)) (hy:ev F y=some u)
  (q:bF (sl sz u (ys.map f)) H R) (hf: ∀ y,(f y).length=sz) (hf1: ∀ y, ∀ u∈f y,u.oneCell'=true) (hsz:bh 0 sz=true) (hb:ys.length*by'≤140737488355328) (h63:ys.length≤maxLen):
  cJ P n o F H fun r H'=> ∃ q' cap',r= .slice q' ys.length cap'∧H'=own (.slice q' ys.length cap') e sz ys.length (flat f ys)::H:=fun Q a w next ha hw hn=>by
 have hw':=aY H e sz w hw;obtain⟨v',w',hr,g1,g2,g3⟩:=JQ (xE ht hs hsz) o.type f hf hf1 (.slice none 0 0) u 0 [] ys hw'.head (hw.1 _ q.mem) (by rw[di];exact hb) (by rw[di];exact h63);rw[di,fe] at g1;obtain⟨q',cap',rfl⟩:=qI g1;unfold Oper.wp;simp only[execOp,ho,resolve,invoke,builtin,dn,eh,eo,ha.eval hx,ha.eval hy,Sem.run_bind,Sem.run_pure,Result.andThen_ok,hr,Oper.upon];exact hn _ _ _ ⟨q',cap',rfl,rfl⟩ (vE hw' g2 g1 g3)
theorem XN {α:Type} (f:α→List Value) (xs ys:List α):flat f xs++flat f ys=flat f (xs++ys):=by simp [flat]
theorem tJ {t e e' sz by' m cnt:Nat} {agg:Bool} [ht:nH P t e] [hs:Ty P e agg sz by' z'] {α:Type} (f:α→List Value) (ys:List α) {zs:List α} {news:List Value} (ho:o.op= .call { callee:= .builtin .append,args:= #[x,y],argTypes:= #[t,t] }) (hx:ev F x=some v) (hy:ev F y=some u)
  (p:bF (own v e sz m (flat f zs)) H R) {S:List Ent} (q:bF (own u e' sz cnt news) R S) (hn:news=flat f ys) (hc:cnt=ys.length) (hm:m=zs.length) (hf: ∀ y,(f y).length=sz) (hf1: ∀ y, ∀ u∈f y,u.oneCell'=true) (hsz:bh 0 sz=true) (hb:(zs.length+ys.length)*by'≤140737488355328) (h63:zs.length+ys.length≤maxLen):
  cJ P n o F H fun r H'=> ∃ q' cap',r= .slice q' (zs++ys).length cap'∧H'=own (.slice q' (zs++ys).length cap') e sz (zs++ys).length (flat f (zs++ys))::S:=fun Q a w next ha hw hn'=>by
 have hw':=hw.perm p.perm;subst hn;subst hm;have hu:bM w sz u (ys.map f):=rO hf hc (hw'.tail.1 _ q.mem);obtain⟨v',w',hr,g1,g2,g3⟩:=JQ (xE ht hs hsz) o.type f hf hf1 v u zs.length (flat f zs) ys hw'.head hu hb h63;rw[XN, ←ag] at g1;obtain⟨q',cap',rfl⟩:=qI g1;unfold Oper.wp;simp only[execOp,ho,resolve,invoke,builtin,dn,eh,eo,ha.eval hx,ha.eval hy,Sem.run_bind,Sem.run_pure,Result.andThen_ok,hr,Oper.upon];have h9:=vE hw' g2 g1 g3;refine hn' _ _ _ ⟨q',cap',rfl,rfl⟩ ?_;exact (h9.perm ((q.perm.cons _).trans (List.Perm.swap _ _ _))).tail
theorem GN {t e e' sz by' cnt:Nat} {agg:Bool} [ht:nH P t e] [hs:Ty P e agg sz by' z'] {α:Type} (f:α→List Value) (ys:List α) {news:List Value} (ho:o.op= .call { callee:= .builtin .append,args:= #[x,y],argTypes:= #[t,t] }) (hx:ev F x=some (.slice none 0 0)) (hy:ev F y=some u)
  (q:bF (own u e' sz cnt news) H R) (hn:news=flat f ys) (hc:cnt=ys.length) (hf: ∀ y,(f y).length=sz) (hf1: ∀ y, ∀ u∈f y,u.oneCell'=true) (hsz:bh 0 sz=true) (hb:ys.length*by'≤140737488355328) (h63:ys.length≤maxLen):
  cJ P n o F H fun r H'=> ∃ q' cap',r= .slice q' ys.length cap'∧H'=own (.slice q' ys.length cap') e sz ys.length (flat f ys)::R:=fun Q a w next ha hw hn'=>
 tJ (H:=own (.slice none 0 0) e sz 0 []::H) (zs:=[]) f ys ho hx hy (.here) q hn hc rfl hf hf1 hsz (by simpa using hb) (by simpa using h63) Q a w next ha (aY H e sz w hw) hn'
theorem axY {e sz m:Nat} {α:Type} {f:α→List Value} {ys:List α} {v:Value} (p:bF (own v e sz m (flat f ys)) H R) (hf: ∀ y,(f y).length=sz) (hm:m=ys.length):HSub H (sl sz v (ys.map f)::R):=fun w hw=>by
 have hw':=hw.perm p.perm;refine aD.acZ hw' (fun h=>by cases h) (rO hf hm hw'.head) fun b hb=>hb.2
def aqR (P:Program) (t:TypeId):Option (Value×List (Nat×Nat)):=
 match P.info? t,P.underlying t with
 |some it,some (.struct fields)=>
  match it.zero,fields.toList.mapM (fun f=>(P.info? f.type).map fun i=>(f.offset,i.size)) with
  |some z,some places=>some (z,places)
  |_,_=>none
 |_,_=>none
class GO (P:Program) (t:TypeId) (z:outParam Value) (pl:outParam (List (Nat×Nat))):Prop where
 h:aqR P t=some (z,pl)
inductive Bld (pl:Nat→Option (Nat×Nat)):List (Nat×Value)→List Value→List Value→Prop
 |nil {cs}:Bld pl [] cs cs
 |cons {i u rest cs us cs' out off sz}:pl i=some (off,sz)→u.cells=us.toArray→us.length=sz→dv (off+sz) cs.length=true→eQ cs off us=cs'→Bld pl rest cs' out→Bld pl ((i,u)::rest) cs out
theorem yZ {pl:Nat→Option (Nat×Nat)} {i:Nat} {u:Value} {rest:List (Nat×Value)} {cs cs' out:List Value} {off:Nat} (hp:pl i=some (off,1)) (h1:u.oneCell'=true) (hfit:bh off cs.length=true) (hs:cs.set off u=cs') (hr:Bld pl rest cs' out):Bld pl ((i,u)::rest) cs out:=by
 have hlt:off<cs.length:=by simpa using hfit
 have hc:u.cells=[u].toArray:=by cases u<;>first|rfl|(simp [Value.oneCell'] at h1)
 refine .cons hp hc rfl (dw (by omega)) ?_ hr;rw[←hs,iO _ _ _ (by simp only[df];omega),de,if_pos hlt];simp
theorem axZ {pl:Nat→Option (Nat×Nat)} {i:Nat} {us:List Value} {rest:List (Nat×Value)} {cs cs' out:List Value} {off sz:Nat} (hp:pl i=some (off,sz)) (hl:us.length=sz) (hfit:dv (off+sz) cs.length=true) (hs:eQ cs off us=cs') (hr:Bld pl rest cs' out):Bld pl ((i, .agg us.toArray)::rest) cs out:= .cons hp rfl hl hfit hs hr
theorem UC: ∀ (us:List Value) (off k:Nat) (cs:List Value),off+k+us.length≤cs.length→(us.zipIdx k).foldl (fun (c:Array Value) (p:Value×Nat)=>c.setIfInBounds (off+p.2) p.1) cs.toArray=(eQ cs (off+k) us).toArray:=by
 intro us;induction us with
 |nil=>intro off k cs _;cases cs<;>simp [eQ]
 |cons u us ih=>
  intro off k cs h;simp only[fb] at h;rw[List.zipIdx_cons,List.foldl_cons];have e1:(cs.toArray.setIfInBounds (off+k) u)=(cs.set (off+k) u).toArray:=by simp
  rw[e1,ih off (k+1) _ (by simp;omega)];congr 1;rw[iO _ _ _ (by simp;omega),iO _ _ _ (by simp;omega)];apply da;intro j;simp only[cl,ag,b9,List.length_set,bp,bq,dj,fb];by_cases c1:j<off+k
  ·rw[if_pos (by omega),if_pos (by omega),if_pos (by omega),if_neg (by omega),if_pos (by omega),if_pos (by omega),if_pos (by omega)]
  ·by_cases c2:j=off+k
   ·subst c2;rw[if_pos (by omega),if_pos (by omega),if_pos (by omega),if_pos rfl,if_pos (by omega),if_pos (by omega),if_neg (by omega)];rw[show off+k-min (off+k) cs.length=0 from by omega];rfl
   ·by_cases c3:j<off+k+1+us.length
    ·rw[if_pos (by omega),if_neg (by omega),if_pos (by omega),if_neg (by omega)];rw[show j-min (off+k) cs.length=(j-min (off+(k+1)) cs.length)+1 from by omega];rfl
    ·rw[if_neg (by omega),if_neg (by omega),if_neg (by omega)];congr 1;omega
theorem JR {pl:Nat→Option (Nat×Nat)}: ∀ {ps:List (Nat×Value)} {cs out:List Value},Bld pl ps cs out→Instr.fill pl cs.toArray ps=some out.toArray:=by
 intro ps cs out h;induction h with
 |nil=>rfl
 | @cons i u rest cs us cs' out off sz hf hus hl hfit hsp _ ih=>
  have hfit':=bu hfit;unfold Instr.fill;subst hl;simp only[hf,hus,db,ne_eq,not_true_eq_false,decide_false,Bool.false_or,decide_eq_true_eq,if_neg (Nat.not_lt.2 hfit')];have:=UC us off 0 cs (by omega);simp only[dm] at this;rw[show us.toArray.zipIdx=(us.zipIdx 0).toArray from by simp,List.foldl_toArray,this,hsp];exact ih
def evp (F:dF):List (Nat×Operand)→Option (List (Nat×Value))
 |[]=>some []
 |(i,x)::l=>match ev F x,evp F l with
  |some v,some r=>some ((i,v)::r)
  |_,_=>none
theorem XO {a:Act} (ha:Ok F n a): ∀ {l:List (Nat×Operand)} {ps:List (Nat×Value)},evp F l=some ps→l.map (fun p=>(p.1,a.eval p.2))=ps:=by
 intro l;induction l with
 |nil=>intro ps h;simpa [evp] using h
 |cons p l ih=>
  obtain⟨i,x⟩:=p;intro ps h;simp only[evp] at h;split at h
  ·rename_i v r hv hr;simp only[bd] at h;subst h;simp [ih hr,ha.eval hv]
  ·cases h
theorem ayA {pl:List (Nat×Nat)} [hl:GO P T z' pl] {parts:List (Nat×Operand)} {ps:List (Nat×Value)} {cs out:List Value} (ho:o.op= .build T parts.toArray) (hp:evp F parts=some ps) (hz:z'.cells=cs.toArray) (hb:Bld (fun i=>pl[i]?) ps cs out):Qt P n o F H (.agg out.toArray):=fun a w ha hw=>by
 have h1:=hl.h;have hbt:P.built T ps=some out.toArray:=by
  unfold aqR at h1;unfold Program.built;split at h1
  ·rename_i it fields hi hu;simp only[hi,hu];split at h1
   ·rename_i z places hz' hpl;simp only[bd,cr] at h1;obtain⟨rfl,rfl⟩:=h1;simp only[hz',hpl];have:=JR hb;rw[←hz] at this;simpa using this
   ·cases h1
  ·cases h1
 have he:=XO ha hp;have:(Instr.build T (parts.toArray.map fun (i,x)=>(i,a.eval x))).run P w= .ok (.agg out.toArray) w:=by
  apply run_build;rw[←hbt];congr 1;simpa using he
 simp only[execOp,ho,Sem.run_bind,this,Result.andThen_ok,Sem.run_pure]
theorem aqS {pl:List (Nat×Nat)} {cs:List Value} (hl:GO P T z' pl) (hz:Zr P T cs):z'.cells=cs.toArray:=by
 obtain⟨agg,sz,by',z2,ht,hc⟩:=hz.h;obtain⟨i,d,hi,hd,_,_,_,hzero⟩:=ht.info;have h1:=hl.h;unfold aqR at h1;split at h1
 ·rename_i it fields hi2 hu;split at h1
  ·rename_i z places hz' hpl;simp only[bd,cr] at h1;rw[hi] at hi2;cases hi2;rw[hzero] at hz';cases hz';rw[←h1.1];exact hc
  ·cases h1
 ·cases h1
theorem aDE {pl:List (Nat×Nat)} {cs:List Value} [hl:GO P T z' pl] [hz:Zr P T cs] {parts:List (Nat×Operand)} {ps:List (Nat×Value)} {out:List Value} (ho:o.op= .build T parts.toArray) (hp:evp F parts=some ps) (hb:Bld (fun i=>pl[i]?) ps cs out):Qt P n o F H (.agg out.toArray):=ayA ho hp (aqS hl hz) hb
def mQ (z:Value) (len:Nat):List Value:=(eb len z.cells.toList).flatten
theorem IB {z:Value} {sz:Nat} (hz:z.cells.size=sz) (len:Nat):(fh (len*sz)).map (z.cells[· %z.cells.size]!)=(mQ z len).toArray:=by
 apply Array.ext_getElem?;intro i;subst hz;have hfl:(mQ z len).length=len*z.cells.size:=by
  simp [mQ,List.length_flatten,List.sum_replicate_nat]
 by_cases hi:i<len*z.cells.size
 ·have hpos:0<z.cells.size:=by rcases ei z.cells.size with h0|h0;(rw[h0] at hi;simp at hi);exact h0
  have h1:i/z.cells.size<len:=(dh hpos).2 hi;have h2:i%z.cells.size<z.cells.size:=fc _ hpos;have hdm:i/z.cells.size*z.cells.size+i%z.cells.size=i:=by rw[ej];exact dp i _
  have h3:=nN (α:=Nat) (fun _=>z.cells.toList) z.cells.size (by simp) (eb len 0) (i/z.cells.size) 0 (by rw[List.getElem?_replicate,if_pos h1]) (i%z.cells.size) (z.cells[i%z.cells.size]'h2) (by simp);rw[hdm] at h3;have h4:mQ z len=flat (fun _:Nat=>z.cells.toList) (eb len 0):=by simp [mQ,flat]
  have h5:(mQ z len).toArray[i]? =some z.cells[i%z.cells.size]:=by rw[List.getElem?_toArray,h4];exact h3
  rw[h5];simp [hi,h2]
 ·rw[dr (by simpa using Nat.le_of_not_lt hi),dr (by simp only[db,hfl];omega)]
theorem aM {t e len sz by':Nat} {agg:Bool} [ht:nH P t e] [hs:Ty P e agg sz by' z'] {parts:List (Nat×Operand)} {ps:List (Nat×Value)} {cs out:List Value} (ho:o.op= .buildSlice t len parts.toArray) (hp:evp F parts=some ps) (hz:mQ z' len=cs) (hb:Bld (fun i=>some (i*sz,sz)) ps cs out) (hol:out.length=len*sz) (hl:dv len 100000=true) (hlz:len*sz≤16777216) (hlp:bh 0 (len*sz)=true):cJ P n o F H fun u H'=> ∃ q,u= .slice q len len∧H'=own (.slice q len len) e sz len out::H:=fun Q a w next ha hw hn=>by
 have he:=XO ha hp;have hlp':0<len*sz:=by simpa using hlp
 have hfill:Instr.fill (fun i=>some (i*sz,sz)) ((fh (len*sz)).map (z'.cells[· %z'.cells.size]!)) ps=some out.toArray:=by
  rw[IB hs.hz,hz];exact JR hb
 have hrun:(Instr.buildSlice t len (parts.toArray.map fun (i,x)=>(i,a.eval x))).run P w= .ok (.slice (some ⟨w.heap.size,0,none⟩) len len) (w.alloc (.cells out.toArray e)):=by
  have e1:(parts.toArray.map fun (i,x)=>(i,a.eval x)).toList=ps:=by simpa using he
  unfold Instr.buildSlice;simp only[Sem.run_bind,run_underlying ht.h,Result.andThen_ok,cV hs,if_neg (show ¬ len*sz>2^24 from by omega),if_neg (show ¬ len*sz=0 from by omega),Sem.run_pure,qG hs,e1,hfill];rfl
 unfold Oper.wp;simp only[execOp,ho,Sem.run_bind,hrun,Result.andThen_ok,Sem.run_pure,Oper.upon];refine hn _ _ _ ⟨some ⟨w.heap.size,0,none⟩,rfl,rfl⟩ (aD.new hw (fD w (.cells out.toArray e)) ⟨hol, .inr ⟨w.heap.size,len,out.toArray,rfl,fg _,heap_alloc_new _ _,Nat.le_refl _, ?_,by simpa using hol, ?_⟩⟩ fun b hb=> ?_)
 ·have:=bu hl;unfold maxLen;omega
 ·simp [←hol]
 ·have:w.heap.size=b:=bf hb;omega
def UD (F:dF):List Operand→Option (List Value)
 |[]=>some []
 |x::l=>match ev F x,UD F l with
  |some v,some r=>some (v::r)
  |_,_=>none
theorem mR {a:Act} (ha:Ok F n a): ∀ {l:List Operand} {vs:List Value},UD F l=some vs→l.map a.eval=vs:=by
 intro l;induction l with
 |nil=>intro vs h;simpa [UD] using h
 |cons x l ih=>
  intro vs h;simp only[UD] at h;split at h
  ·rename_i v r hv hr;simp only[bd] at h;subst h;simp [ih hr,ha.eval hv]
  ·cases h
theorem lD {f:FuncId} [hc:bX P f] (args:Array Value) (w:World):(callFunc f args).run P w= .ok (.enter f args) w:=by
 have h:=hc.h;obtain⟨fn,hf,e⟩:=ck.1 h;simp only[cr] at e;have h1:fn.body.isNone=false:=by cases hb:fn.body<;>simp [hb] at e ⊢
 simp only[callFunc,program,Sem.run_bind,Sem.run,Result.andThen_ok,hf,e.2,h1,Bool.false_eq_true,if_false,Sem.run_pure]
theorem kD {f:FuncId} [hc:bX P f] {args:List Operand} {ts:Array TypeId} {vs:List Value} {C S:List Ent} {Rs:Value→List Ent→Prop} (ho:o.op= .call { callee:= .value (.func f),args:=args.toArray,argTypes:=ts }) (hs:Ct P f vs C Rs) (hv:UD F args=some vs) (p:iE C H S):cJ P n o F H fun v H'=> ∃ H1,Rs v H1∧H'=H1++S:=fun Q a w next ha hw hn=>by
 have he:=mR ha hv;have e1:args.toArray.map a.eval=vs.toArray:=by simpa using he
 unfold Oper.wp;simp only[execOp,ho,resolve,Deferred.ofValue,Act.eval,invoke,e1,Sem.run_bind,Sem.run_pure,Result.andThen_ok,lD];simp only[Array.append_empty,List.append_toArray,fe,Oper.upon];refine (hs.go S w (p.ok hw)).mono ?_;rintro e w' ⟨v,H1,rfl,h1,h2⟩;exact hn v _ w' ⟨H1,h1,rfl⟩ h2
theorem bO {A B:List Ent} (p:A.Perm B):HSub A B:=fun w h=>h.perm p
theorem tK {f:FuncId} [hc:bX P f] {x:Operand} {first cap:List Value} {args:List Operand} {ts:Array TypeId} {vs:List Value} {pre C Fr:List Ent} {u:Value} (ho:o.op= .call { callee:= .value x,args:=args.toArray,argTypes:=ts }) (hx:ev F x=some (.func (.func f) first.toArray cap.toArray)) (hv:UD F args=some vs) (hs:Ct P f (first++vs++cap) C fun v H'=>v=u∧H'=C) (hH:H=pre++(C++Fr)):cJ P n o F H fun v H'=>v=u∧H'=H:=fun Q a w next ha hw hn=>by
 have he:=mR ha hv;have e1:args.toArray.map a.eval=vs.toArray:=by simpa using he
 have e2:first.toArray++vs.toArray++cap.toArray=(first++vs++cap).toArray:=by simp
 subst hH;have hp:(pre++(C++Fr)).Perm (C++(pre++Fr)):=by
  rw[←ep, ←ep];exact List.Perm.append_right Fr List.perm_append_comm
 unfold Oper.wp;simp only[execOp,ho,resolve,Deferred.ofValue,ha.eval hx,invoke,e1,e2,Sem.run_bind,Sem.run_pure,Result.andThen_ok,lD,Oper.upon];refine (hs.go (pre++Fr) w (hw.perm hp)).mono ?_;rintro e w' ⟨v,H1,rfl,⟨h1,rfl⟩,h2⟩;exact hn v _ w' ⟨h1,rfl⟩ (h2.perm hp.symm)
theorem JS {fn:Fn} {fi ca:List Operand} {vf vc:List Value} (ho:o.op= .makeFunc fn fi.toArray ca.toArray) (hf:UD F fi=some vf) (hc:UD F ca=some vc):Qt P n o F H (.func fn vf.toArray vc.toArray):=fun a w ha hw=>by
 have h1:=mR ha hf;have h2:=mR ha hc;simp [execOp,ho,Instr.makeFunc,h1,h2]
end
theorem mL (sz:Nat) (v:Value) (rows:List (List Value)):(sl sz v rows).iD=false:=rfl
theorem qJ (W:World):(gH W).iD=false:=rfl
end Go.Proofs.YtbjalbcdbgcgdaaGreat.sl
