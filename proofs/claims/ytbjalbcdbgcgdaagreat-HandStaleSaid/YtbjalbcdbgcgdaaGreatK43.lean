/- Law HandStale: its texts, packed. -/
import Derived.Test.YtbjalbcdbgcgdaaGreatK13
import Derived.RangeFuncNested
import Derived.RangeFuncLeaves
import Derived.RangeFuncCalls
import Derived.Test.YtbjalbcdbgcgdaaGreatK07
open Nat renaming ble->dv,blt->bh
open Array renaming getElem?_eq_some_iff->aa
open Classical renaming choose->a7,choose_spec->a8
set_option linter.unusedVariables false
set_option maxRecDepth 100000
set_option maxHeartbeats 8000000
namespace Go.Proofs.YtbjalbcdbgcgdaaGreat.sl
open Go.RowKit bG
def WJ (a:Act):Act:={ a with defers:=[] }
theorem OL (a:Act):(WJ a).eval=a.eval:=by
 funext x;cases x<;>rfl
def fx:Option Nat→Fence
 |none=>Fence.wide
 |some l=>Fence.wide.inRound l
theorem awP (ro:Option Nat) (f:FuncId):(fx ro).fn f:=by cases ro<;>trivial
theorem awQ (ro:Option Nat):(fx ro).round=ro:=by cases ro<;>rfl
theorem awR (ro:Option Nat):(fx ro).depth=none:=by cases ro<;>rfl
theorem WK {ro:Option Nat} {p:Prop}:(fx ro).depth.isSome=true→p:=fun h=>by rw[awR] at h;cases h
theorem agI {ro:Option Nat} {k:Nat} {P:Program} {f:FuncId} {args:Array Value} {w:World} {R:Ending→World→Prop} (h:Calls P f args w R):CallsIn (fx ro) k P f args w R:=by
 cases ro with
 |none=>exact callsIn_wide.2 h
 |some l=>exact CallsIn.inRound l (callsIn_wide.2 h)
theorem apD {ro:Option Nat} {k:Nat} {P:Program} {row:String} {args:Array Value} {w:World} {R:Value→World→Prop} (h:Rows P row args w R):RowsIn (fx ro) k P row args w R:=fun c cs _=>by
 obtain⟨v,w',r,s⟩:=h c cs;refine⟨v,w',r, ?_⟩;cases ro with
 |none=>exact stepsIn_wide.2 s
 |some l=>exact (stepsIn_wide.2 s:StepsIn (Machine.fenced P Fence.wide) P _ _)
def lQ (D:List Deferred) (Q:eP) (e:Exit) (n:Nat) (F:dF) (H:List Ent):Prop:= ∀ a w,a.defers=D→Ok F n (WJ a)→aD H w→Q e a w
def mI (ro:Option Nat) (D:List Deferred) (P:Program) (Q:eP) (n:Nat) (c:Code) (F:dF) (H:List Ent):Prop:= ∀ a w,a.defers=D→Ok F n (WJ a)→aD H w→c.wpIn (fx ro) 0 P Q a w
def mJ (ro:Option Nat) (D:List Deferred) (P:Program) (ops:Array Oper) (Q:eP) (n:Nat) (l:List Oper) (F:dF) (H:List Ent):Prop:= ∀ a w,a.defers=D→Ok F n (WJ a)→aD H w→wpListIn (fx ro) 0 P ops Q l a w
section
variable {P:Program} {Q:eP} {n:Nat} {F:dF} {H R:List Ent} {ro:Option Nat} {D:List Deferred}
theorem aHA {o:Oper} {K:Value→List Ent→Prop} (h:cJ P n o F H K) (hd: ∀ c,o.op≠ .defer c) {a:Act} {w:World} (ha:Ok F n (WJ a)) (hw:aD H w) {next:Act→World→Prop} (hn: ∀ v H' w',K v H'→aD H' w'→next (a.put o.dst v) w'):o.wpIn (fx ro) 0 P a w next Q:=by
 have h1:=h (fun _ _ _=>False) (WJ a) w (fun a1 w1=>a1.defers=[]∧next { a1 with defers:=a.defers } w1) ha hw fun v H' w' hK hH=>by
  have h2:=hn v H' w' hK hH;cases ho:o.dst with
  |none=>rw[ho] at h2;exact⟨rfl,h2⟩
  |some d=>rw[ho] at h2;exact⟨rfl,h2⟩
 unfold Oper.wp at h1;rw[OL] at h1;refine⟨fun f _=>awP ro f, ?_⟩;rw[awQ,Oper.semAt_eq ro _ _ hd];have hput: ∀ v,({ (WJ a).put o.dst v with defers:=a.defers }:Act)=a.put o.dst v:=fun v=>by cases o.dst<;>rfl
 generalize (execOp a.eval o).run P w=r at h1 ⊢
 match r,h1 with
 | .ok (.value v) w',h1=>have:=h1.2;rw[hput] at this;exact this
 | .ok .skip w',h1=>have:=h1.2;rw[hput] at this;exact this
 | .ok (.defer d) w',h1=>exact absurd h1.1 (by cases o.dst<;>simp [Act.put])
 | .ok (.enter f args) w',h1=>
  refine⟨WK,(agI h1).mono fun e w'' he=> ?_⟩;cases e with
  |returned v=>have:=he.2;rw[hput] at this;exact this
  |panicked ch=>exact he.elim
  |outgrown=>obtain⟨_,_,h⟩:=he;exact h.elim
 | .ok (.row row args) w',h1=>
  refine⟨WK,(apD h1).mono fun v w'' he=> ?_⟩;have:=he.2;rw[hput] at this;exact this
 | .halt (.panic v) w',h1=>exact h1.elim
theorem apE {c:Code} {H':List Ent} (hH:HSub H H') (h:mI ro D P Q n c F H'):mI ro D P Q n c F H:=fun a w hD ha hw=>h a w hD ha (hH w hw)
theorem TP {ops:Array Oper} {l:List Oper} {H':List Ent} (hH:HSub H H') (h:mJ ro D P ops Q n l F H'):mJ ro D P ops Q n l F H:=fun a w hD ha hw=>h a w hD ha (hH w hw)
theorem apF {e:Exit} {G:dF} {H':List Ent} (hF:jB F G) (hH:HSub H H') (h:lQ D Q e n G H'):lQ D Q e n F H:=fun a w hD ha hw=>h a w hD (ha.sub hF) (hH w hw)
theorem awS {x y:Code} (h:mI ro D P (Exit.then (y.wpIn (fx ro) 0 P Q) Q) n x F H):mI ro D P Q n (.seq x y) F H:=fun a w hD ha hw=>wpIn_seq (h a w hD ha hw)
theorem apG (h:lQ D Q .normal n F H):mI ro D P Q n .skip F H:=fun a w hD ha hw=>wpIn_skip (h a w hD ha hw)
theorem apH {id:Nat} (h:lQ D Q (.exit id) n F H):mI ro D P Q n (.exit id) F H:=fun a w hD ha hw=>wpIn_exit (h a w hD ha hw)
theorem awT (h:lQ D Q .ret n F H):mI ro D P Q n .ret F H:=fun a w hD ha hw=>wpIn_ret (h a w hD ha hw)
theorem WL {a:Act} {x:Operand} {v:Value} (ha:Ok F n (WJ a)) (hx:ev F x=some v):a.eval x=v:=by
 have:=ha.eval hx;rwa [OL] at this
theorem acE {c:Operand} {x y:Code} (hc:ev F c=some (.bool true)) (h:mI ro D P Q n x F H):mI ro D P Q n (.cond c x y) F H:=fun a w hD ha hw=>wpIn_cond_true (WL ha hc) (h a w hD ha hw)
theorem acF {c:Operand} {x y:Code} (hc:ev F c=some (.bool false)) (h:mI ro D P Q n y F H):mI ro D P Q n (.cond c x y) F H:=fun a w hD ha hw=>wpIn_cond_false (WL ha hc) (h a w hD ha hw)
theorem OM {id:Nat} {c:Code} (h:mI ro D P (Exit.inBlock id Q) n c F H):mI ro D P Q n (.block id c) F H:=fun a w hD ha hw=>wpIn_block (h a w hD ha hw)
theorem acG {id:Nat} {l:List Oper} (h:mJ ro D P l.toArray Q n l F H):mI ro D P Q n (.region id l.toArray false) F H:=fun a w hD ha hw=>wpIn_region_lit (h a w hD ha hw)
theorem awU {ops:Array Oper} (h:lQ D Q .normal n F H):mJ ro D P ops Q n [] F H:=fun a w hD ha hw=>wpListIn_nil (h a w hD ha hw)
theorem apI {y:Code} (h:mI ro D P Q n y F H):lQ D (Exit.then (y.wpIn (fx ro) 0 P Q) Q) .normal n F H:=h
theorem ON {K:Act→World→Prop} {id:Nat} (h:lQ D Q (.exit id) n F H):lQ D (Exit.then K Q) (.exit id) n F H:=h
theorem PX {K:Act→World→Prop} (h:lQ D Q .ret n F H):lQ D (Exit.then K Q) .ret n F H:=h
theorem agJ {id:Nat} (h:lQ D Q .normal n F H):lQ D (Exit.inBlock id Q) .normal n F H:=h
theorem OO {id:Nat} (h:lQ D Q .ret n F H):lQ D (Exit.inBlock id Q) .ret n F H:=h
theorem GZ {id:Nat} (h:lQ D Q .normal n F H):lQ D (Exit.inBlock id Q) (.exit id) n F H:=fun a w hD ha hw=>by
 show if id=id then _ else _
 rw[if_pos rfl];exact h a w hD ha hw
theorem OP {id i:Nat} (hne:Nat.beq i id=false) (h:lQ D Q (.exit i) n F H):lQ D (Exit.inBlock id Q) (.exit i) n F H:=fun a w hD ha hw=>by
 show if i=id then _ else _
 rw[if_neg (fun e=>by subst e;simp at hne)];exact h a w hD ha hw
theorem JC {a:Act} {d:Option Nat} {v:Value}:WJ (a.put d v)=(WJ a).put d v:=by cases d<;>rfl
theorem put_defers {a:Act} {d:Option Nat} {v:Value}:(a.put d v).defers=a.defers:=by cases d<;>rfl
theorem acH {ops:Array Oper} {o:Oper} {rest:List Oper} {K:Value→List Ent→Prop} (hg:kR ops F o) (hd:fits n o.dst=true) (h:cJ P n o F H K) (hdef: ∀ c,o.op≠ .defer c) (k: ∀ v H',K v H'→mJ ro D P ops Q n rest (pA F o.dst v) H'):mJ ro D P ops Q n (o::rest) F H:=
 fun a w hD ha hw=>wpListIn_step fun K' hK=>by
  have hwt:Region.wanted o (yielded ops a.tmps)=true:=hg.wanted (a:=WJ a) ha;rw[if_pos hwt];exact aHA h hdef ha hw fun v H' w' hv hH'=>hK _ _ (k v H' hv _ w' (put_defers.trans hD) (by rw[JC];exact ha.put hd) hH')
theorem acI {ops:Array Oper} {o:Oper} {rest:List Oper} {j t:Nat} {b:Bool} (hg:o.guard=some (j,b)) (hs:nG ops j=some t) (hv:look F t=some (.bool (!b))) (hd:fits n o.dst=true) (k:mJ ro D P ops Q n rest (pA F o.dst undef) H):mJ ro D P ops Q n (o::rest) F H:=
 fun a w hD ha hw=>wpListIn_step fun K' hK=>by
  have hy:yielded ops a.tmps=yielded ops (WJ a).tmps:=rfl;have: ¬ Region.wanted o (yielded ops a.tmps)=true:=by
   rw[hy];simp only[Region.wanted,hg,rP ha hs hv];cases b<;>simp
  rw[if_neg this];exact⟨fun f _=>awP ro f,hK _ _ (k _ _ (put_defers.trans hD) (by rw[JC];exact ha.put hd) hw)⟩
theorem apJ {ops:Array Oper} {rest:List Oper} {d:Nat} {op:Op} {ty:TypeId} {ps:String} {af:Array Edge} {j t:Nat} {b:Bool} (hs:nG ops j=some t) (hv:look F t=some (.bool (!b))) (hd:bh d n=true) (k:mJ ro D P ops Q n rest ((d,undef)::F) H):mJ ro D P ops Q n (⟨some d,op,ty,ps,af,some (j,b)⟩::rest) F H:=acI rfl hs hv hd k
theorem apK {ops:Array Oper} {rest:List Oper} {op:Op} {ty:TypeId} {ps:String} {af:Array Edge} {j t:Nat} {b:Bool} (hs:nG ops j=some t) (hv:look F t=some (.bool (!b))) (k:mJ ro D P ops Q n rest F H):mJ ro D P ops Q n (⟨none,op,ty,ps,af,some (j,b)⟩::rest) F H:=acI rfl hs hv rfl k
theorem JD {ops:Array Oper} {rest:List Oper} {d:Nat} {op:Op} {ty:TypeId} {ps:String} {af:Array Edge} {g:Option (Nat×Bool)} {K:Value→List Ent→Prop} (hg:kR ops F ⟨some d,op,ty,ps,af,g⟩) (hd:bh d n=true) (h:cJ P n ⟨some d,op,ty,ps,af,g⟩ F H K) (hdef: ∀ c,op≠ .defer c) (k: ∀ v H',K v H'→mJ ro D P ops Q n rest ((d,v)::F) H'):mJ ro D P ops Q n (⟨some d,op,ty,ps,af,g⟩::rest) F H:=acH hg hd h hdef k
theorem aBM {ops:Array Oper} {rest:List Oper} {op:Op} {ty:TypeId} {ps:String} {af:Array Edge} {g:Option (Nat×Bool)} {K:Value→List Ent→Prop} (hg:kR ops F ⟨none,op,ty,ps,af,g⟩) (h:cJ P n ⟨none,op,ty,ps,af,g⟩ F H K) (hdef: ∀ c,op≠ .defer c) (k: ∀ v H',K v H'→mJ ro D P ops Q n rest F H'):mJ ro D P ops Q n (⟨none,op,ty,ps,af,g⟩::rest) F H:=acH hg rfl h hdef k
theorem OQ {op:Op} {kd:Nat} (h:cZ op=kd+1): ∀ c,op≠ .defer c:=fun c e=>by
 subst e;cases h
theorem nT (kd:Nat) {ops:Array Oper} {rest:List Oper} {d:Nat} {op:Op} {ty:TypeId} {ps:String} {af:Array Edge} {g:Option (Nat×Bool)} {v:Value} (hk:cZ op=kd+1) (hg:kR ops F ⟨some d,op,ty,ps,af,g⟩) (hd:bh d n=true) (h:Qt P n ⟨some d,op,ty,ps,af,g⟩ F H v) (k:mJ ro D P ops Q n rest ((d,v)::F) H):mJ ro D P ops Q n (⟨some d,op,ty,ps,af,g⟩::rest) F H:=
 JD hg hd (gV h) (OQ hk) fun u H' ⟨h1,h2⟩=>by rw[h1,h2];exact k
theorem uU (kd:Nat) {ops:Array Oper} {rest:List Oper} {d:Nat} {op:Op} {ty:TypeId} {ps:String} {af:Array Edge} {g:Option (Nat×Bool)} {K:Value→List Ent→Prop} (hk:cZ op=kd+1) (hg:kR ops F ⟨some d,op,ty,ps,af,g⟩) (hd:bh d n=true) (h:cJ P n ⟨some d,op,ty,ps,af,g⟩ F H K) (k: ∀ v H',K v H'→mJ ro D P ops Q n rest ((d,v)::F) H'):mJ ro D P ops Q n (⟨some d,op,ty,ps,af,g⟩::rest) F H:=JD hg hd h (OQ hk) k
theorem acJ (kd:Nat) {ops:Array Oper} {rest:List Oper} {op:Op} {ty:TypeId} {ps:String} {af:Array Edge} {g:Option (Nat×Bool)} {K:Value→List Ent→Prop} (hk:cZ op=kd+1) (hg:kR ops F ⟨none,op,ty,ps,af,g⟩) (h:cJ P n ⟨none,op,ty,ps,af,g⟩ F H K) (k: ∀ v H',K v H'→mJ ro D P ops Q n rest F H'):mJ ro D P ops Q n (⟨none,op,ty,ps,af,g⟩::rest) F H:=aBM hg h (OQ hk) k
def awV {σ:Type} (D:List Deferred) (n:Nat) (I:σ→Prop) (Fi:σ→dF) (Hi:σ→List Ent) (μ:σ→Nat) (k:Nat) (a:Act) (w:World):Prop:= ∃ y,I y∧a.defers=D∧Ok (Fi y) n (WJ a)∧aD (Hi y) w∧μ y<k
theorem apL {c:Code} {σ:Type} (I:σ→Prop) (Fi:σ→dF) (Hi:σ→List Ent) (μ:σ→Nat) (x0:σ) (h0:I x0) (hF:jB F (Fi x0)) (hH:HSub H (Hi x0)) (round: ∀ x,I x→mI ro D P (Exit.then (awV D n I Fi Hi μ (μ x)) Q) n c (Fi x) (Hi x)):mI ro D P Q n (.loop c) F H:=by
 classical
 intro a w hD ha hw
 let J:Act→World→Nat→Prop:=fun a w k=> ∃ x,I x∧a.defers=D∧Ok (Fi x) n (WJ a)∧aD (Hi x) w∧μ x=k
 let m:Act→World→Nat:=fun a w=>if h: ∃ k,J a w k then a7 (least h) else 0
 refine wpIn_loop (fun a w=> ∃ k,J a w k) m ⟨_,x0,h0,hD,ha.sub hF,hH w hw,rfl⟩ ?_;intro a w hI;have hm:m a w=a7 (least hI):=by simp only[m];rw[dif_pos hI]
 obtain⟨x,h1,h2,h3,h4,h5⟩:=(a8 (least hI)).1;refine wpIn_mono (round x h1 a w h2 h3 h4) ?_;intro e a' w' hq;cases e<;>try exact hq
 obtain⟨y,g1,g2,g3,g4,g5⟩:=hq;have hJ: ∃ k,J a' w' k:=⟨_,y,g1,g2,g3,g4,rfl⟩;refine⟨hJ, ?_⟩;have hm':m a' w'=a7 (least hJ):=by simp only[m];rw[dif_pos hJ]
 rw[hm,hm', ←h5];exact Nat.lt_of_le_of_lt ((a8 (least hJ)).2 _ ⟨y,g1,g2,g3,g4,rfl⟩) g5
theorem yM {σ:Type} {I:σ→Prop} {Fi:σ→dF} {Hi:σ→List Ent} {μ:σ→Nat} {k:Nat} (y:σ) (hI:I y) (hF:jB F (Fi y)) (hH:HSub H (Hi y)) (hμ:μ y<k):lQ D (Exit.then (awV D n I Fi Hi μ k) Q) .normal n F H:=
 fun a w hD ha hw=>⟨y,hI,hD,ha.sub hF,hH w hw,hμ⟩
end
def nD (l:Nat) (r:Loop):Ent where
 iD:=true
 jE j:=j=l
 holds w:=w.heap[l]? =some (.loop r)
 lt h hk:=by
  subst hk;exact (aa.1 h).1
 keep h _ _ _ _ hb:=by rw[hb l rfl];exact h
def GI (d:Nat):Ent where
 iD:=true
 jE j:=j=d
 holds w:=w.heap[d]? =some (.deferred (some []))
 lt h hk:=by
  subst hk;exact (aa.1 h).1
 keep h _ _ _ _ hb:=by rw[hb d rfl];exact h
theorem BN (w:World) (l:Nat) (o:Obj):mP (fun b=>b=l) w (w.putObj l o):=⟨rfl,rfl,rfl,by simp [World.putObj],fun b _ hb=>World.putObj_heap_other hb⟩
theorem uV {R:List Ent} {l:Nat} {r r':Loop} {w:World} (hw:aD (nD l r::R) w):aD (nD l r'::R) (w.putObj l (.loop r')):=by
 have h:w.heap[l]? =some (.loop r):=hw.head;exact aD.pA hw rfl (BN w l _) (World.putObj_heap_same (aa.1 h).1:(w.putObj l (.loop r')).heap[l]? =_) fun b hb=> .inl hb
theorem awW {R:List Ent} {d:Nat} {w:World} (hw:aD (GI d::R) w):aD R (w.putObj d (.deferred none)):=by
 have hp:=List.pairwise_cons.1 hw.2;exact⟨fun f hf=>Ent.WQ (hw.1 f (List.mem_cons_of_mem _ hf)) (BN w d _) fun b hb hbd=>hp.1 f hf (.inl rfl) b hbd hb,hp.2⟩
abbrev awX:=LoopState→Option Code→Loop
def agK (P:Program) (l dd:Nat) (rec:awX) (args:Array Value) (A:List Ent) (B:List Ent→Prop) (X:Code→List Ent→Prop):Prop:=
 ∀ Fr w,aD (nD l (rec .ready none)::GI dd::(A++Fr)) w→
  ∃ f tmps assign body,(Instr.yield l args).run P w= .ok (.round l f tmps assign body) w∧RoundIn Fence.wide 0 P l f tmps assign body w fun e w'=>
   (∃ L,B L∧e= .returned (.bool true)∧aD (nD l (rec .ready none)::GI dd::(L++Fr)) w')∨ ∃ c L,X c L∧e= .returned (.bool false)∧aD (nD l (rec .done (some c))::GI dd::(L++Fr)) w'
section
variable {P:Program} {Q:eP} {n:Nat} {F:dF} {H R:List Ent} {D:List Deferred}
theorem OR {ops:Array Oper} {rest:List Oper} {d l dd:Nat} {rec:awX} {x:Operand} {args:List Operand} {ts:Array TypeId} {vs:List Value} {ty:TypeId} {ps:String} {af:Array Edge} {g:Option (Nat×Bool)} {A:List Ent} {B:List Ent→Prop} {X:Code→List Ent→Prop} (hg:kR ops F ⟨some d, .call { callee:= .value x,args:=args.toArray,argTypes:=ts },ty,ps,af,g⟩) (hd:bh d n=true) (hx:ev F x=some (.func (.yield l) #[] #[])) (hv:UD F args=some vs) (hr:agK P l dd rec vs.toArray A B X) (hH:HSub H (nD l (rec .ready none)::GI dd::(A++R)))
  (k1: ∀ L,B L→mJ none D P ops Q n rest ((d, .bool true)::F) (nD l (rec .ready none)::GI dd::(L++R)))
  (k2: ∀ c L,X c L→mJ none D P ops Q n rest ((d, .bool false)::F) (nD l (rec .done (some c))::GI dd::(L++R))):
  mJ none D P ops Q n (⟨some d, .call { callee:= .value x,args:=args.toArray,argTypes:=ts },ty,ps,af,g⟩::rest) F H:=
 fun a w hD ha hw=>wpListIn_step fun K' hK=>by
  have hwt:Region.wanted (⟨some d, .call { callee:= .value x,args:=args.toArray,argTypes:=ts },ty,ps,af,g⟩:Oper) (yielded ops a.tmps)=true:=hg.wanted (a:=WJ a) ha;rw[if_pos hwt];refine⟨fun f _=>awP none f, ?_⟩;obtain⟨f,tmps,assign,body,hy,hrd⟩:=hr R w (hH w hw);have he:=mR ha hv;rw[OL] at he;have e1:args.toArray.map a.eval=vs.toArray:=by simpa using he
  have e2:(#[]++vs.toArray++ #[]:Array Value)=vs.toArray:=by simp
  show Oper.uponIn Fence.wide 0 P _ a K' Q ((Oper.semAt none a.eval _).run P w);rw[Oper.semAt_none];simp only[execOp,resolve,Deferred.ofValue,WL ha hx,invoke,e1,Sem.run_bind,Sem.run_pure,Result.andThen_ok,Array.empty_append,hy];refine⟨fun h=>(by cases h),hrd.mono fun e w' he=> ?_⟩;rcases he with⟨L,h1,rfl,h2⟩|⟨c,L,h1,rfl,h2⟩
  ·exact hK _ _ (k1 L h1 _ w' (put_defers.trans hD) (by rw[JC];exact ha.put (d:=some d) hd) h2)
  ·exact hK _ _ (k2 c L h1 _ w' (put_defers.trans hD) (by rw[JC];exact ha.put (d:=some d) hd) h2)
def aHB (P:Program) (l:Nat) (body:Code) (Rr:Ending→World→Prop):eP:=Exit.then (fun a₁ w₁=> ∃ w₂,(Instr.beginRound l).run P w₁= .ok () w₂∧body.wpIn (fx (some l)) 0 P (roundPost P l Rr) a₁ w₂) (fun _ _ _=>False)
def aFG (l dd:Nat) (rec:awX) (B:List Ent→Prop) (X:Code→List Ent→Prop) (Fr:List Ent):Ending→World→Prop:=fun e w'=>
 (∃ L,B L∧e= .returned (.bool true)∧aD (nD l (rec .ready none)::GI dd::(L++Fr)) w')∨ ∃ c L,X c L∧e= .returned (.bool false)∧aD (nD l (rec .done (some c))::GI dd::(L++Fr)) w'
def nE (fn:FuncId) (tmps:Array Value) (p:Tmp) (assign body:Code) (dd:Nat):awX:=fun st pe=>{ state:=st,pending:=pe,fn:=fn,tmps:=tmps,params:= #[p],assign:=assign,body:=body,defers:=dd }
theorem agL {l dd:Nat} {fn:FuncId} {T:Array Value} {p:Tmp} {assign body:Code} {Rr:Ending→World→Prop} (hH:HSub H (nD l (nE fn T p assign body dd .ready none)::R)) (h:mI (some l) [] P (roundPost P l Rr) n body F (nD l (nE fn T p assign body dd .busy none)::R)):lQ [] (aHB P l body Rr) .normal n F H:=fun a w hD ha hw=>by
 have hw':=hH w hw;exact⟨_,run_beginRound hw'.head rfl,h a _ hD ha (uV hw')⟩
theorem yN {l dd:Nat} {fn:FuncId} {T:Array Value} {p:Tmp} {assign body:Code} {Fr:List Ent} {B:List Ent→Prop} {X:Code→List Ent→Prop} (L:List Ent) (hL:B L) (hH:HSub H (nD l (nE fn T p assign body dd .busy none)::GI dd::(L++Fr))):lQ [] (roundPost P l (aFG l dd (nE fn T p assign body dd) B X Fr)) .normal n F H:=fun a w hD ha hw=>by
 have hw':=hH w hw;exact⟨_,_,run_endRound none hw'.head, .inl ⟨L,hL,rfl,uV hw'⟩⟩
theorem uW {l dd:Nat} {fn:FuncId} {T:Array Value} {p:Tmp} {assign body:Code} {Fr:List Ent} {B:List Ent→Prop} {X:Code→List Ent→Prop} (L:List Ent) (hL:X .ret L) (hH:HSub H (nD l (nE fn T p assign body dd .busy none)::GI dd::(L++Fr))):lQ [] (roundPost P l (aFG l dd (nE fn T p assign body dd) B X Fr)) .ret n F H:=fun a w hD ha hw=>by
 have hw':=hH w hw;exact⟨_,_,run_endRound (some .ret) hw'.head, .inr ⟨.ret,L,hL,rfl,uV hw'⟩⟩
theorem apM {F0:dF} {l dd:Nat} {fn:FuncId} {T:Array Value} {p:Tmp} {assign body:Code} {v:Value} {A:List Ent} {B:List Ent→Prop} {X:Code→List Ent→Prop} (hT:Ok F0 n { tmps:=T,defers:=[] }) (hp:bh p n=true)
  (h: ∀ Fr,mI (some l) [] P (aHB P l body (aFG l dd (nE fn T p assign body dd) B X Fr)) n assign ((p,v)::F0) (nD l (nE fn T p assign body dd .ready none)::GI dd::(A++Fr))):agK P l dd (nE fn T p assign body dd) #[v] A B X:=fun Fr w hw=>by
 have hl:w.heap[l]? =some (.loop (nE fn T p assign body dd .ready none)):=hw.head;refine⟨_,_,_,_,run_yield hl rfl,roundIn_of_wpIn trivial ?_⟩;refine h Fr _ w rfl ?_ hw;have h9:=hT.put (d:=some p) (v:=v) hp;simpa [nE,WJ,Act.put,pA] using h9
def awY (P:Program) (gf:FuncId) (args:List Value) (H:List Ent) (R:List Ent→Prop):Prop:= ∀ w,aD H w→CallsIn Fence.wide 0 P gf args.toArray w fun e w'=> ∃ v H',e= .returned v∧R H'∧aD H' w'
theorem agM {gf:FuncId} [hc:bX P gf] {lb:List Value} {g:Operand} {p:Tmp} {assign body:Code} {Hd:List Ent→Prop} {Hx:Code→List Ent→Prop} (hg:ev F g=some (.func (.func gf) #[] lb.toArray)) (it: ∀ l dd fn T,Ok F n { tmps:=T,defers:=[] }→awY P gf (.func (.yield l) #[] #[]::lb) (nD l (nE fn T p assign body dd .ready none)::GI dd::H) fun H'=>(∃ L,Hd L∧H'=nD l (nE fn T p assign body dd .ready none)::GI dd::L)∨ ∃ c L,Hx c L∧H'=nD l (nE fn T p assign body dd .done (some c))::GI dd::L)
  (hdone: ∀ dd L,Hd L→lQ [{ target:= .collected dd,args:= #[] }] Q .normal n F (GI dd::L)) (hjump: ∀ c dd L,Hx c L→mI none [{ target:= .collected dd,args:= #[] }] P Q n c F (GI dd::L)):mI none [] P Q n (.rangeFunc g #[p] assign body) F H:=fun a w hD ha hw=>by
 refine wpIn_rangeFunc fun fn _=> ?_
 have hW:aD (nD (w.heap.size+1) (nE fn a.tmps p assign body w.heap.size .ready none)::GI w.heap.size::H) ((w.alloc (.deferred (some []))).alloc (.loop (nE fn a.tmps p assign body w.heap.size .ready none))):=by
  have h1:aD (GI w.heap.size::H) (w.alloc (.deferred (some []))):=aD.new hw (fD w _) (heap_alloc_new w _:(w.alloc (.deferred (some []))).heap[w.heap.size]? =_) fun b hb=>by (have:b=w.heap.size:=hb);omega
  have hs:(w.alloc (.deferred (some []))).heap.size=w.heap.size+1:=by simp
  refine aD.new h1 (fD _ _) ?_ fun b hb=>by (have:b=w.heap.size+1:=hb);omega
  show _=some (Obj.loop _);rw[←hs];exact heap_alloc_new (w.alloc (.deferred (some []))) _
 have hit:=it (w.heap.size+1) w.heap.size fn a.tmps ha _ hW;refine⟨w.heap.size+1,[{ target:= .collected w.heap.size,args:= #[] }],(w.alloc (.deferred (some []))).alloc (.loop (nE fn a.tmps p assign body w.heap.size .ready none)),{ target:= .fn (.func gf) lb.toArray,args:= #[.func (.yield (w.heap.size+1)) #[] #[]] },(w.alloc (.deferred (some []))).alloc (.loop (nE fn a.tmps p assign body w.heap.size .ready none)),gf,(Value.func (.yield (w.heap.size+1)) #[] #[]::lb).toArray,(w.alloc (.deferred (some []))).alloc (.loop (nE fn a.tmps p assign body w.heap.size .ready none)),run_enterLoop_outer _ _ _ _ _, ?_,fun f' _=>trivial, ?_,WK, ?_⟩
 ·simp only[resolve,WL ha hg];simp [go_sem]
 ·simp [invoke,go_sem,lD]
 ·refine hit.mono fun e w' ⟨v,H',he,hH',hw'⟩=> ?_
  subst he;rcases hH' with⟨L,hL,rfl⟩|⟨c,L,hL,rfl⟩
  ·have hl:w'.heap[w.heap.size+1]? =some (.loop (nE fn a.tmps p assign body w.heap.size .ready none)):=hw'.head;refine⟨none,_,run_endLoop hl (by simp [nE]), ?_⟩;exact hdone _ L hL _ _ (by simp [hD]) ha (uV (r':={ nE fn a.tmps p assign body w.heap.size .ready none with state:= .exhausted }) hw').tail
  ·have hl:w'.heap[w.heap.size+1]? =some (.loop (nE fn a.tmps p assign body w.heap.size .done (some c))):=hw'.head;refine⟨some c,_,run_endLoop hl (by simp [nE]), ?_⟩;exact hjump c _ L hL _ _ (by simp [hD]) ha (uV (r':={ nE fn a.tmps p assign body w.heap.size .done (some c) with state:= .exhausted }) hw').tail
def awZ (P:Program) (fn:Func) (R:Value→List Ent→Prop) (Fr:List Ent):eP:=bodyPostM Fence.wide 0 P fn fun e w'=> ∃ v H',e= .returned v∧R v H'∧aD (H'++Fr) w'
theorem TQ {n:Nat} {args:List Value} (hn:dv args.length n=true):Ok (ini 0 args) n { tmps:=args.toArray++Array.replicate (n-args.toArray.size) undef,defers:=[] }:=by
 refine⟨rfl, ?_, ?_⟩
 ·have:=Nat.le_of_ble_eq_true hn;simp;omega
 ·intro t v ht;obtain⟨_,h2⟩:=XE args 0 t v ht;simp only[Nat.sub_zero] at h2;have hl:=(List.getElem?_eq_some_iff.1 h2).1;rw[Array.getElem?_append_left (by simpa using hl)];simpa using h2
theorem uX {f:FuncId} {fn:Func} {c:Code} {args:List Value} {H:List Ent} {R:Value→List Ent→Prop} {n:Nat} (hf:P.funcs[f]? =some fn) (hnt:fn.ntmps=n) (hb:fn.body=some c) (hn:dv args.length n=true) (h: ∀ Fr,mI none [] P (awZ P fn R Fr) n c (ini 0 args) (H++Fr)):Ct P f args H R:=by
 refine⟨fun Fr w hw=>callsIn_wide.1 (callsIn_of_wp_marks (n:=0) hf hb trivial ?_)⟩;subst hnt;exact h Fr _ w rfl (TQ hn) hw
theorem acK {f:FuncId} {fn:Func} {c:Code} {args:List Value} {H:List Ent} {R:List Ent→Prop} {n:Nat} (hf:P.funcs[f]? =some fn) (hnt:fn.ntmps=n) (hb:fn.body=some c) (hn:dv args.length n=true) (h:mI none [] P (awZ P fn (fun _ H'=>R H') []) n c (ini 0 args) H):awY P f args H R:=by
 intro w hw;refine (callsIn_of_wp_marks (n:=0) hf hb trivial (R:=fun e w'=> ∃ v H',e= .returned v∧R H'∧aD (H'++[]) w') ?_).mono fun e w' ⟨v,H',h1,h2,h3⟩=>⟨v,H',h1,h2,by rwa [List.append_nil] at h3⟩
 subst hnt;exact h _ w rfl (TQ hn) hw
theorem BO {fn:Func} {R':Value→List Ent→Prop} {Fr:List Ent} {rs:List ResultVar} (hrs:fn.results=rs.toArray) {v:Value} (hr:yT P F H rs v) (H':List Ent) (hR:R' v H') (hH:HSub H (H'++Fr)):lQ [] (awZ P fn R' Fr) .ret n F H:=fun a w hD ha hw=>by
 show LeavesInM Fence.wide 0 P fn a.tmps _ a.defers .returning w;rw[hD];exact⟨v,hr.results (a:=WJ a) hrs ha hw,_,_,rfl,hR,hH w hw⟩
theorem WN {fn:Func} {R':Value→List Ent→Prop} {Fr:List Ent} {rs:List ResultVar} (hrs:fn.results=rs.toArray) {v:Value} (hr:yT P F H rs v) (H':List Ent) (hR:R' v H') (hH:HSub H (H'++Fr)):lQ [] (awZ P fn R' Fr) .normal n F H:=fun a w hD ha hw=>by
 show LeavesInM Fence.wide 0 P fn a.tmps _ a.defers .returning w;rw[hD];exact⟨v,hr.results (a:=WJ a) hrs ha hw,_,_,rfl,hR,hH w hw⟩
theorem wY {fn:Func} {R':Value→List Ent→Prop} {Fr S:List Ent} {dd:Nat} {rs:List ResultVar} (hrs:fn.results=rs.toArray) {v:Value} (hS:HSub H (GI dd::S)) (hr:yT P F S rs v) (H':List Ent) (hR:R' v H') (hH:HSub S (H'++Fr)):lQ [{ target:= .collected dd,args:= #[] }] (awZ P fn R' Fr) .ret n F H:=fun a w hD ha hw=>by
 show LeavesInM Fence.wide 0 P fn a.tmps _ a.defers .returning w;rw[hD];have hw':=hS w hw;have hd:w.heap[dd]? =some (.deferred (some [])):=hw'.head;refine⟨by simp, .inl ⟨dd,_,rfl,run_takeDeferred hd, ?_⟩⟩;have h2:=awW hw';exact⟨v,hr.results (a:=WJ a) hrs ha h2,_,_,rfl,hR,hH _ h2⟩
end
end Go.Proofs.YtbjalbcdbgcgdaaGreat.sl
namespace Go.Proofs.YtbjalbcdbgcgdaaGreat.sl
open Go.RowKit bG
theorem Xa {P Q:Prop} (q:Q) (h:Tk Q→P:=by intro h;(first|(apply nT 0;(focus rfl);(focus exact wt);(focus rfl);(focus (exact qg1)))|(apply nT 1;(focus rfl);(focus exact wt);(focus rfl);(focus (first|exact qg2|exact qs2)))|(apply nT 2;(focus rfl);(focus exact wt);(focus rfl);(focus (first|exact qg3|exact qs3)))|(apply nT 3;(focus rfl);(focus exact wt);(focus rfl);(focus (first|exact qg4|exact qs4)))|(apply nT 4;(focus rfl);(focus exact wt);(focus rfl);(focus (exact qg5)))|(apply nT 5;(focus rfl);(focus exact wt);(focus rfl);(focus (first|exact qs6|exact qg6|exact aCP rfl rfl rfl|exact FE rfl rfl (by omega)|exact zG rfl rfl|exact sU rfl rfl rfl|exact EZ rfl rfl)))|(apply nT 10;(focus rfl);(focus exact wt);(focus rfl);(focus (exact aGC)))|(apply nT 11;(focus rfl);(focus exact wt);(focus rfl);(focus (first|exact aGD|exact arJ rfl rfl rfl rfl (by omega) (by omega)|exact tT rfl rfl rfl rfl (by omega))))|refine awS ?_|refine acG ?_|refine awU ?_|refine apI ?_|(apply acE;(focus rfl))|(apply acF;(focus rfl))|refine OM ?_|refine apH ?_|refine awT ?_|refine apG ?_|refine GZ ?_|refine OP rfl ?_|refine OO ?_|refine ON ?_|refine PX ?_|refine agJ ?_|(apply acJ 8;(focus rfl);(focus exact wt);(focus (exact cX rfl rfl rfl (by exact aN) rfl rfl rfl (by exact akQ)));(rintro _ _ ⟨rfl,rfl⟩))|(apply acJ 8;(focus rfl);(focus exact wt);(focus (exact bW rfl rfl rfl rfl (by exact aN) rfl (by exact akP)));(rintro _ _ ⟨rfl,rfl⟩))|(apply apJ;(focus rfl);(focus rfl);(focus rfl))|(apply apK;(focus rfl);(focus rfl))|fail);exact h.go):P:=h ⟨q⟩
theorem Xb {P Q:Prop} (q:Q) (h:Tk Q→P:=by intro h;(first|(apply uU 7;(focus rfl);(focus exact wt);(focus rfl);(focus (exact pF rfl rfl));(rintro _ _ ⟨b,rfl,rfl⟩);revert b)|(apply uU 7;(focus rfl);(focus exact wt);(focus rfl);(focus (exact pG rfl rfl rfl));(rintro _ _ ⟨b,rfl,rfl⟩);revert b)|(apply uU 7;(focus rfl);(focus exact wt);(focus rfl);(focus (exact iI rfl));(rintro _ _ ⟨b,rfl,rfl⟩);revert b)|fail);exact h.go):P:=h ⟨q⟩
theorem Xq {P Q:Prop} (q:Q) (h:Tk Q→P:=by intro h;(first|(apply uU 9;(focus rfl);(focus exact wt);(focus rfl);(focus (exact aM rfl rfl rfl (by exact lE) rfl rfl (by decide) rfl));(rintro _ _ ⟨q,rfl,rfl⟩);revert q)|fail);exact h.go):P:=h ⟨q⟩
theorem Xc {Z:Program} {f:FuncId} {az:List Value} {H:List Ent} {R:Value→List Ent→Prop} {P Q:Prop} (c:Ct Z f az H R) (q:Q) (h:Ct Z f az H R→Tk Q→P:=by intro c h;(apply uU 6;(focus rfl);(focus exact wt);(focus rfl);(focus (exact pJ (by rfl) c (by rfl) PG));(rintro _ _ ⟨rfl,rfl⟩));exact h.go):P:=h c ⟨q⟩
end Go.Proofs.YtbjalbcdbgcgdaaGreat.sl
