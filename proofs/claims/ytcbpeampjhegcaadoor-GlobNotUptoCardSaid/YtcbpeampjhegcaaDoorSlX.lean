/-
  The small separation logic in a round of a range over a function, and with marks of deferred calls. Nothing here speaks of the program.
-/
import Derived.Test.YtcbpeampjhegcaaDoorSlCallV
import Derived.RangeFuncNested
import Derived.RangeFuncLeaves
import Derived.RangeFuncCalls
namespace Go.Proofs.YtcbpeampjhegcaaDoor.sl
open Go.RowKit kit
set_option linter.unusedVariables false
/-- an activation, its deferred calls aside -/
def nod (a : Act) : Act := { a with defers := [] }
theorem nod_eval (a : Act) : (nod a).eval = a.eval := by
  funext x
  cases x <;> rfl
def fx : Option Nat → Fence
  | none => Fence.wide
  | some l => Fence.wide.inRound l
theorem fx_fn (ro : Option Nat) (f : FuncId) : (fx ro).fn f := by cases ro <;> trivial
theorem fx_round (ro : Option Nat) : (fx ro).round = ro := by cases ro <;> rfl
theorem fx_depth (ro : Option Nat) : (fx ro).depth = none := by cases ro <;> rfl
theorem fx_need {ro : Option Nat} {p : Prop} : (fx ro).depth.isSome = true → p := fun h => by rw [fx_depth] at h; cases h
theorem callsIn_fx {ro : Option Nat} {k : Nat} {P : Program} {f : FuncId} {args : Array Value} {w : World} {R : Ending → World → Prop} (h : Calls P f args w R) : CallsIn (fx ro) k P f args w R := by
  cases ro with
  | none => exact callsIn_wide.2 h
  | some l => exact CallsIn.inRound l (callsIn_wide.2 h)
theorem rowsIn_fx {ro : Option Nat} {k : Nat} {P : Program} {row : String} {args : Array Value} {w : World} {R : Value → World → Prop} (h : Rows P row args w R) : RowsIn (fx ro) k P row args w R := fun c cs _ => by
  obtain ⟨v, w', r, s⟩ := h c cs
  refine ⟨v, w', r, ?_⟩
  cases ro with
  | none => exact stepsIn_wide.2 s
  | some l => exact (stepsIn_wide.2 s : StepsIn (Machine.fenced P Fence.wide) P _ _)
def XPst (D : List Deferred) (Q : Post) (e : Exit) (n : Nat) (F : Frm) (H : List Ent) : Prop := ∀ a w, a.defers = D → Ok F n (nod a) → HeapOk H w → Q e a w
def XCod (ro : Option Nat) (D : List Deferred) (P : Program) (Q : Post) (n : Nat) (c : Code) (F : Frm) (H : List Ent) : Prop := ∀ a w, a.defers = D → Ok F n (nod a) → HeapOk H w → c.wpIn (fx ro) 0 P Q a w
def XRun (ro : Option Nat) (D : List Deferred) (P : Program) (ops : Array Oper) (Q : Post) (n : Nat) (l : List Oper) (F : Frm) (H : List Ent) : Prop := ∀ a w, a.defers = D → Ok F n (nod a) → HeapOk H w → wpListIn (fx ro) 0 P ops Q l a w
section
variable {P : Program} {Q : Post} {n : Nat} {F : Frm} {H R : List Ent} {ro : Option Nat} {D : List Deferred}
theorem opr_x {o : Oper} {K : Value → List Ent → Prop} (h : Opr P n o F H K) (hd : ∀ c, o.op ≠ .defer c) {a : Act} {w : World} (ha : Ok F n (nod a)) (hw : HeapOk H w) {next : Act → World → Prop} (hn : ∀ v H' w', K v H' → HeapOk H' w' → next (a.put o.dst v) w') : o.wpIn (fx ro) 0 P a w next Q := by
  have h1 := h (fun _ _ _ => False) (nod a) w (fun a1 w1 => a1.defers = [] ∧ next { a1 with defers := a.defers } w1) ha hw fun v H' w' hK hH => by
    have h2 := hn v H' w' hK hH
    cases ho : o.dst with
    | none => rw [ho] at h2; exact ⟨rfl, h2⟩
    | some d => rw [ho] at h2; exact ⟨rfl, h2⟩
  unfold Oper.wp at h1
  rw [nod_eval] at h1
  refine ⟨fun f _ => fx_fn ro f, ?_⟩
  rw [fx_round, Oper.semAt_eq ro _ _ hd]
  have hput : ∀ v, ({ (nod a).put o.dst v with defers := a.defers } : Act) = a.put o.dst v := fun v => by cases o.dst <;> rfl
  generalize (execOp a.eval o).run P w = r at h1 ⊢
  match r, h1 with
  | .ok (.value v) w', h1 => have := h1.2; rw [hput] at this; exact this
  | .ok .skip w', h1 => have := h1.2; rw [hput] at this; exact this
  | .ok (.defer d) w', h1 => exact absurd h1.1 (by cases o.dst <;> simp [Act.put])
  | .ok (.enter f args) w', h1 =>
    refine ⟨fx_need, (callsIn_fx h1).mono fun e w'' he => ?_⟩
    cases e with
    | returned v => have := he.2; rw [hput] at this; exact this
    | panicked ch => exact he.elim
    | outgrown => obtain ⟨_, _, h⟩ := he; exact h.elim
  | .ok (.row row args) w', h1 =>
    refine ⟨fx_need, (rowsIn_fx h1).mono fun v w'' he => ?_⟩
    have := he.2
    rw [hput] at this
    exact this
  | .halt (.panic v) w', h1 => exact h1.elim
theorem xcod_heap {c : Code} {H' : List Ent} (hH : HSub H H') (h : XCod ro D P Q n c F H') : XCod ro D P Q n c F H := fun a w hD ha hw => h a w hD ha (hH w hw)
theorem xrun_heap {ops : Array Oper} {l : List Oper} {H' : List Ent} (hH : HSub H H') (h : XRun ro D P ops Q n l F H') : XRun ro D P ops Q n l F H := fun a w hD ha hw => h a w hD ha (hH w hw)
theorem xpst_weak {e : Exit} {G : Frm} {H' : List Ent} (hF : FSub F G) (hH : HSub H H') (h : XPst D Q e n G H') : XPst D Q e n F H := fun a w hD ha hw => h a w hD (ha.sub hF) (hH w hw)
theorem xcod_seq {x y : Code} (h : XCod ro D P (Exit.then (y.wpIn (fx ro) 0 P Q) Q) n x F H) : XCod ro D P Q n (.seq x y) F H := fun a w hD ha hw => wpIn_seq (h a w hD ha hw)
theorem xcod_skip (h : XPst D Q .normal n F H) : XCod ro D P Q n .skip F H := fun a w hD ha hw => wpIn_skip (h a w hD ha hw)
theorem xcod_exit {id : Nat} (h : XPst D Q (.exit id) n F H) : XCod ro D P Q n (.exit id) F H := fun a w hD ha hw => wpIn_exit (h a w hD ha hw)
theorem xcod_ret (h : XPst D Q .ret n F H) : XCod ro D P Q n .ret F H := fun a w hD ha hw => wpIn_ret (h a w hD ha hw)
theorem nod_ev {a : Act} {x : Operand} {v : Value} (ha : Ok F n (nod a)) (hx : ev F x = some v) : a.eval x = v := by
  have := ha.eval hx
  rwa [nod_eval] at this
theorem xcod_cond_t {c : Operand} {x y : Code} (hc : ev F c = some (.bool true)) (h : XCod ro D P Q n x F H) : XCod ro D P Q n (.cond c x y) F H := fun a w hD ha hw => wpIn_cond_true (nod_ev ha hc) (h a w hD ha hw)
theorem xcod_cond_f {c : Operand} {x y : Code} (hc : ev F c = some (.bool false)) (h : XCod ro D P Q n y F H) : XCod ro D P Q n (.cond c x y) F H := fun a w hD ha hw => wpIn_cond_false (nod_ev ha hc) (h a w hD ha hw)
theorem xcod_block {id : Nat} {c : Code} (h : XCod ro D P (Exit.inBlock id Q) n c F H) : XCod ro D P Q n (.block id c) F H := fun a w hD ha hw => wpIn_block (h a w hD ha hw)
theorem xcod_region {id : Nat} {l : List Oper} (h : XRun ro D P l.toArray Q n l F H) : XCod ro D P Q n (.region id l.toArray false) F H := fun a w hD ha hw => wpIn_region_lit (h a w hD ha hw)
theorem xrun_nil {ops : Array Oper} (h : XPst D Q .normal n F H) : XRun ro D P ops Q n [] F H := fun a w hD ha hw => wpListIn_nil (h a w hD ha hw)
theorem xpst_then {y : Code} (h : XCod ro D P Q n y F H) : XPst D (Exit.then (y.wpIn (fx ro) 0 P Q) Q) .normal n F H := h
theorem xpst_then_exit {K : Act → World → Prop} {id : Nat} (h : XPst D Q (.exit id) n F H) : XPst D (Exit.then K Q) (.exit id) n F H := h
theorem xpst_then_ret {K : Act → World → Prop} (h : XPst D Q .ret n F H) : XPst D (Exit.then K Q) .ret n F H := h
theorem xpst_block {id : Nat} (h : XPst D Q .normal n F H) : XPst D (Exit.inBlock id Q) .normal n F H := h
theorem xpst_block_ret {id : Nat} (h : XPst D Q .ret n F H) : XPst D (Exit.inBlock id Q) .ret n F H := h
theorem xpst_block_here {id : Nat} (h : XPst D Q .normal n F H) : XPst D (Exit.inBlock id Q) (.exit id) n F H := fun a w hD ha hw => by
  show if id = id then _ else _
  rw [if_pos rfl]; exact h a w hD ha hw
theorem xpst_block_out {id i : Nat} (hne : Nat.beq i id = false) (h : XPst D Q (.exit i) n F H) : XPst D (Exit.inBlock id Q) (.exit i) n F H := fun a w hD ha hw => by
  show if i = id then _ else _
  rw [if_neg (fun e => by subst e; simp at hne)]; exact h a w hD ha hw
theorem nod_put {a : Act} {d : Option Nat} {v : Value} : nod (a.put d v) = (nod a).put d v := by cases d <;> rfl
theorem put_defers {a : Act} {d : Option Nat} {v : Value} : (a.put d v).defers = a.defers := by cases d <;> rfl
theorem xrun_opr {ops : Array Oper} {o : Oper} {rest : List Oper} {K : Value → List Ent → Prop} (hg : Wtd ops F o) (hd : fits n o.dst = true) (h : Opr P n o F H K) (hdef : ∀ c, o.op ≠ .defer c) (k : ∀ v H', K v H' → XRun ro D P ops Q n rest (upd F o.dst v) H') : XRun ro D P ops Q n (o :: rest) F H :=
  fun a w hD ha hw => wpListIn_step fun K' hK => by
    have hwt : Region.wanted o (yielded ops a.tmps) = true := hg.wanted (a := nod a) ha
    rw [if_pos hwt]
    exact opr_x h hdef ha hw fun v H' w' hv hH' => hK _ _ (k v H' hv _ w' (put_defers.trans hD) (by rw [nod_put]; exact ha.put hd) hH')
theorem xrun_off {ops : Array Oper} {o : Oper} {rest : List Oper} {j t : Nat} {b : Bool} (hg : o.guard = some (j, b)) (hs : gslot ops j = some t) (hv : look F t = some (.bool (!b))) (hd : fits n o.dst = true) (k : XRun ro D P ops Q n rest (upd F o.dst undef) H) : XRun ro D P ops Q n (o :: rest) F H :=
  fun a w hD ha hw => wpListIn_step fun K' hK => by
    have hy : yielded ops a.tmps = yielded ops (nod a).tmps := rfl
    have : ¬ Region.wanted o (yielded ops a.tmps) = true := by
      rw [hy]
      simp only [Region.wanted, hg, yielded_of ha hs hv]
      cases b <;> simp
    rw [if_neg this]
    exact ⟨fun f _ => fx_fn ro f, hK _ _ (k _ _ (put_defers.trans hD) (by rw [nod_put]; exact ha.put hd) hw)⟩
theorem xrun_offs {ops : Array Oper} {rest : List Oper} {d : Nat} {op : Op} {ty : TypeId} {ps : String} {af : Array Edge} {j t : Nat} {b : Bool} (hs : gslot ops j = some t) (hv : look F t = some (.bool (!b))) (hd : Nat.blt d n = true) (k : XRun ro D P ops Q n rest ((d, undef) :: F) H) : XRun ro D P ops Q n (⟨some d, op, ty, ps, af, some (j, b)⟩ :: rest) F H := xrun_off rfl hs hv hd k
theorem xrun_offn {ops : Array Oper} {rest : List Oper} {op : Op} {ty : TypeId} {ps : String} {af : Array Edge} {j t : Nat} {b : Bool} (hs : gslot ops j = some t) (hv : look F t = some (.bool (!b))) (k : XRun ro D P ops Q n rest F H) : XRun ro D P ops Q n (⟨none, op, ty, ps, af, some (j, b)⟩ :: rest) F H := xrun_off rfl hs hv rfl k
theorem xrun_os {ops : Array Oper} {rest : List Oper} {d : Nat} {op : Op} {ty : TypeId} {ps : String} {af : Array Edge} {g : Option (Nat × Bool)} {K : Value → List Ent → Prop} (hg : Wtd ops F ⟨some d, op, ty, ps, af, g⟩) (hd : Nat.blt d n = true) (h : Opr P n ⟨some d, op, ty, ps, af, g⟩ F H K) (hdef : ∀ c, op ≠ .defer c) (k : ∀ v H', K v H' → XRun ro D P ops Q n rest ((d, v) :: F) H') : XRun ro D P ops Q n (⟨some d, op, ty, ps, af, g⟩ :: rest) F H := xrun_opr hg hd h hdef k
theorem xrun_on {ops : Array Oper} {rest : List Oper} {op : Op} {ty : TypeId} {ps : String} {af : Array Edge} {g : Option (Nat × Bool)} {K : Value → List Ent → Prop} (hg : Wtd ops F ⟨none, op, ty, ps, af, g⟩) (h : Opr P n ⟨none, op, ty, ps, af, g⟩ F H K) (hdef : ∀ c, op ≠ .defer c) (k : ∀ v H', K v H' → XRun ro D P ops Q n rest F H') : XRun ro D P ops Q n (⟨none, op, ty, ps, af, g⟩ :: rest) F H := xrun_opr hg rfl h hdef k
theorem kind_def {op : Op} {kd : Nat} (h : opKind op = kd + 1) : ∀ c, op ≠ .defer c := fun c e => by
  subst e
  cases h
theorem xrun_qg (kd : Nat) {ops : Array Oper} {rest : List Oper} {d : Nat} {op : Op} {ty : TypeId} {ps : String} {af : Array Edge} {g : Option (Nat × Bool)} {v : Value} (hk : opKind op = kd + 1) (hg : Wtd ops F ⟨some d, op, ty, ps, af, g⟩) (hd : Nat.blt d n = true) (h : Qt P n ⟨some d, op, ty, ps, af, g⟩ F H v) (k : XRun ro D P ops Q n rest ((d, v) :: F) H) : XRun ro D P ops Q n (⟨some d, op, ty, ps, af, g⟩ :: rest) F H :=
  xrun_os hg hd (opr_of_qt h) (kind_def hk) fun u H' ⟨h1, h2⟩ => by rw [h1, h2]; exact k
theorem xrun_osg (kd : Nat) {ops : Array Oper} {rest : List Oper} {d : Nat} {op : Op} {ty : TypeId} {ps : String} {af : Array Edge} {g : Option (Nat × Bool)} {K : Value → List Ent → Prop} (hk : opKind op = kd + 1) (hg : Wtd ops F ⟨some d, op, ty, ps, af, g⟩) (hd : Nat.blt d n = true) (h : Opr P n ⟨some d, op, ty, ps, af, g⟩ F H K) (k : ∀ v H', K v H' → XRun ro D P ops Q n rest ((d, v) :: F) H') : XRun ro D P ops Q n (⟨some d, op, ty, ps, af, g⟩ :: rest) F H := xrun_os hg hd h (kind_def hk) k
theorem xrun_ong (kd : Nat) {ops : Array Oper} {rest : List Oper} {op : Op} {ty : TypeId} {ps : String} {af : Array Edge} {g : Option (Nat × Bool)} {K : Value → List Ent → Prop} (hk : opKind op = kd + 1) (hg : Wtd ops F ⟨none, op, ty, ps, af, g⟩) (h : Opr P n ⟨none, op, ty, ps, af, g⟩ F H K) (k : ∀ v H', K v H' → XRun ro D P ops Q n rest F H') : XRun ro D P ops Q n (⟨none, op, ty, ps, af, g⟩ :: rest) F H := xrun_on hg h (kind_def hk) k
/-- what a round of a loop must bring about -/
def XAgain {σ : Type} (D : List Deferred) (n : Nat) (I : σ → Prop) (Fi : σ → Frm) (Hi : σ → List Ent) (μ : σ → Nat) (k : Nat) (a : Act) (w : World) : Prop := ∃ y, I y ∧ a.defers = D ∧ Ok (Fi y) n (nod a) ∧ HeapOk (Hi y) w ∧ μ y < k
theorem xcod_loop {c : Code} {σ : Type} (I : σ → Prop) (Fi : σ → Frm) (Hi : σ → List Ent) (μ : σ → Nat) (x0 : σ) (h0 : I x0) (hF : FSub F (Fi x0)) (hH : HSub H (Hi x0))
    (round : ∀ x, I x → XCod ro D P (Exit.then (XAgain D n I Fi Hi μ (μ x)) Q) n c (Fi x) (Hi x)) : XCod ro D P Q n (.loop c) F H := by
  classical
  intro a w hD ha hw
  let J : Act → World → Nat → Prop := fun a w k => ∃ x, I x ∧ a.defers = D ∧ Ok (Fi x) n (nod a) ∧ HeapOk (Hi x) w ∧ μ x = k
  let m : Act → World → Nat := fun a w => if h : ∃ k, J a w k then Classical.choose (least h) else 0
  refine wpIn_loop (fun a w => ∃ k, J a w k) m ⟨_, x0, h0, hD, ha.sub hF, hH w hw, rfl⟩ ?_
  intro a w hI
  have hm : m a w = Classical.choose (least hI) := by simp only [m]; rw [dif_pos hI]
  obtain ⟨x, h1, h2, h3, h4, h5⟩ := (Classical.choose_spec (least hI)).1
  refine wpIn_mono (round x h1 a w h2 h3 h4) ?_
  intro e a' w' hq
  cases e <;> try exact hq
  obtain ⟨y, g1, g2, g3, g4, g5⟩ := hq
  have hJ : ∃ k, J a' w' k := ⟨_, y, g1, g2, g3, g4, rfl⟩
  refine ⟨hJ, ?_⟩
  have hm' : m a' w' = Classical.choose (least hJ) := by simp only [m]; rw [dif_pos hJ]
  rw [hm, hm', ← h5]
  exact Nat.lt_of_le_of_lt ((Classical.choose_spec (least hJ)).2 _ ⟨y, g1, g2, g3, g4, rfl⟩) g5
theorem xcod_loop_rw {c : Code} {σ : Type} (I : σ → Prop) (G : σ → Frm) (E : σ → List Ent) (S : List Ent) (μ : σ → Nat) (x0 : σ) (h0 : I x0) (hF : FSubS F [] (G x0)) (hH : HSub H (E x0 ++ S))
    (round : ∀ x, I x → XCod ro D P (Exit.then (XAgain D n I (fun x => G x ++ F) (fun x => E x ++ S) μ (μ x)) Q) n c (G x ++ F) (E x ++ S)) : XCod ro D P Q n (.loop c) F H :=
  xcod_loop I (fun x => G x ++ F) (fun x => E x ++ S) μ x0 h0 (fun t v h => by
    rw [look_append] at h
    split at h
    · rename_i u hu
      simp only [Option.some.injEq] at h
      subst h
      exact hF.slot t u rfl hu
    · exact h) hH round
theorem xpst_again {σ : Type} {I : σ → Prop} {Fi : σ → Frm} {Hi : σ → List Ent} {μ : σ → Nat} {k : Nat} (y : σ) (hI : I y) (hF : FSub F (Fi y)) (hH : HSub H (Hi y)) (hμ : μ y < k) : XPst D (Exit.then (XAgain D n I Fi Hi μ k) Q) .normal n F H :=
  fun a w hD ha hw => ⟨y, hI, hD, ha.sub hF, hH w hw, hμ⟩
end
/-! ### the loop's record, the block of the rounds' deferred calls -/
def lrec (l : Nat) (r : Loop) : Ent where
  excl := true
  foot j := j = l
  holds w := w.heap[l]? = some (.loop r)
  lt h hk := by
    subst hk
    exact (Array.getElem?_eq_some_iff.1 h).1
  keep h _ _ _ _ hb := by rw [hb l rfl]; exact h
def dfr (d : Nat) : Ent where
  excl := true
  foot j := j = d
  holds w := w.heap[d]? = some (.deferred (some []))
  lt h hk := by
    subst hk
    exact (Array.getElem?_eq_some_iff.1 h).1
  keep h _ _ _ _ hb := by rw [hb d rfl]; exact h
theorem moved_putObj (w : World) (l : Nat) (o : Obj) : Moved (fun b => b = l) w (w.putObj l o) := ⟨rfl, rfl, rfl, by simp [World.putObj], fun b _ hb => World.putObj_heap_other hb⟩
theorem lrec_set {R : List Ent} {l : Nat} {r r' : Loop} {w : World} (hw : HeapOk (lrec l r :: R) w) : HeapOk (lrec l r' :: R) (w.putObj l (.loop r')) := by
  have h : w.heap[l]? = some (.loop r) := hw.head
  exact HeapOk.upd hw rfl (moved_putObj w l _) (World.putObj_heap_same (Array.getElem?_eq_some_iff.1 h).1 : (w.putObj l (.loop r')).heap[l]? = _) fun b hb => .inl hb
theorem dfr_shut {R : List Ent} {d : Nat} {w : World} (hw : HeapOk (dfr d :: R) w) : HeapOk R (w.putObj d (.deferred none)) := by
  have hp := List.pairwise_cons.1 hw.2
  exact ⟨fun f hf => Ent.keepM (hw.1 f (List.mem_cons_of_mem _ hf)) (moved_putObj w d _) fun b hb hbd => hp.1 f hf (.inl rfl) b hbd hb, hp.2⟩
/-- a record, by its state and its pending jump -/
abbrev Recs := LoopState → Option Code → Loop
/-- what a call of yield brings about: from A to B and on, or to X c and no more -/
def RoundX (P : Program) (l dd : Nat) (rec : Recs) (args : Array Value) (A : List Ent) (B : List Ent → Prop) (X : Code → List Ent → Prop) : Prop :=
  ∀ Fr w, HeapOk (lrec l (rec .ready none) :: dfr dd :: (A ++ Fr)) w →
    ∃ f tmps assign body, (Instr.yield l args).run P w = .ok (.round l f tmps assign body) w ∧ RoundIn Fence.wide 0 P l f tmps assign body w fun e w' =>
      (∃ L, B L ∧ e = .returned (.bool true) ∧ HeapOk (lrec l (rec .ready none) :: dfr dd :: (L ++ Fr)) w') ∨ ∃ c L, X c L ∧ e = .returned (.bool false) ∧ HeapOk (lrec l (rec .done (some c)) :: dfr dd :: (L ++ Fr)) w'
section
variable {P : Program} {Q : Post} {n : Nat} {F : Frm} {H R : List Ent} {D : List Deferred}
theorem xrun_yield {ops : Array Oper} {rest : List Oper} {d l dd : Nat} {rec : Recs} {x : Operand} {args : List Operand} {ts : Array TypeId} {vs : List Value} {ty : TypeId} {ps : String} {af : Array Edge} {g : Option (Nat × Bool)} {A : List Ent} {B : List Ent → Prop} {X : Code → List Ent → Prop}
    (hg : Wtd ops F ⟨some d, .call { callee := .value x, args := args.toArray, argTypes := ts }, ty, ps, af, g⟩) (hd : Nat.blt d n = true) (hx : ev F x = some (.func (.yield l) #[] #[])) (hv : evl F args = some vs) (hr : RoundX P l dd rec vs.toArray A B X) (hH : HSub H (lrec l (rec .ready none) :: dfr dd :: (A ++ R)))
    (k1 : ∀ L, B L → XRun none D P ops Q n rest ((d, .bool true) :: F) (lrec l (rec .ready none) :: dfr dd :: (L ++ R)))
    (k2 : ∀ c L, X c L → XRun none D P ops Q n rest ((d, .bool false) :: F) (lrec l (rec .done (some c)) :: dfr dd :: (L ++ R))) :
    XRun none D P ops Q n (⟨some d, .call { callee := .value x, args := args.toArray, argTypes := ts }, ty, ps, af, g⟩ :: rest) F H :=
  fun a w hD ha hw => wpListIn_step fun K' hK => by
    have hwt : Region.wanted (⟨some d, .call { callee := .value x, args := args.toArray, argTypes := ts }, ty, ps, af, g⟩ : Oper) (yielded ops a.tmps) = true := hg.wanted (a := nod a) ha
    rw [if_pos hwt]
    refine ⟨fun f _ => fx_fn none f, ?_⟩
    obtain ⟨f, tmps, assign, body, hy, hrd⟩ := hr R w (hH w hw)
    have he := evl_eval ha hv
    rw [nod_eval] at he
    have e1 : args.toArray.map a.eval = vs.toArray := by simpa using he
    have e2 : (#[] ++ vs.toArray ++ #[] : Array Value) = vs.toArray := by simp
    show Oper.uponIn Fence.wide 0 P _ a K' Q ((Oper.semAt none a.eval _).run P w)
    rw [Oper.semAt_none]
    simp only [execOp, resolve, Deferred.ofValue, nod_ev ha hx, invoke, e1, Sem.run_bind, Sem.run_pure, Result.andThen_ok, Array.empty_append, hy]
    refine ⟨fun h => (by cases h), hrd.mono fun e w' he => ?_⟩
    rcases he with ⟨L, h1, rfl, h2⟩ | ⟨c, L, h1, rfl, h2⟩
    · exact hK _ _ (k1 L h1 _ w' (put_defers.trans hD) (by rw [nod_put]; exact ha.put (d := some d) hd) h2)
    · exact hK _ _ (k2 c L h1 _ w' (put_defers.trans hD) (by rw [nod_put]; exact ha.put (d := some d) hd) h2)
/-- the post of the assignments to the loop's left sides -/
def XAsg (P : Program) (l : Nat) (body : Code) (Rr : Ending → World → Prop) : Post := Exit.then (fun a₁ w₁ => ∃ w₂, (Instr.beginRound l).run P w₁ = .ok () w₂ ∧ body.wpIn (fx (some l)) 0 P (roundPost P l Rr) a₁ w₂) (fun _ _ _ => False)
def XOut (l dd : Nat) (rec : Recs) (B : List Ent → Prop) (X : Code → List Ent → Prop) (Fr : List Ent) : Ending → World → Prop := fun e w' =>
  (∃ L, B L ∧ e = .returned (.bool true) ∧ HeapOk (lrec l (rec .ready none) :: dfr dd :: (L ++ Fr)) w') ∨ ∃ c L, X c L ∧ e = .returned (.bool false) ∧ HeapOk (lrec l (rec .done (some c)) :: dfr dd :: (L ++ Fr)) w'
def XRec (fn : FuncId) (tmps : Array Value) (p : Tmp) (assign body : Code) (dd : Nat) : Recs := fun st pe => { state := st, pending := pe, fn := fn, tmps := tmps, params := #[p], assign := assign, body := body, defers := dd }
theorem xpst_begin {l dd : Nat} {fn : FuncId} {T : Array Value} {p : Tmp} {assign body : Code} {Rr : Ending → World → Prop} (hH : HSub H (lrec l (XRec fn T p assign body dd .ready none) :: R)) (h : XCod (some l) [] P (roundPost P l Rr) n body F (lrec l (XRec fn T p assign body dd .busy none) :: R)) : XPst [] (XAsg P l body Rr) .normal n F H := fun a w hD ha hw => by
  have hw' := hH w hw
  exact ⟨_, run_beginRound hw'.head rfl, h a _ hD ha (lrec_set hw')⟩
theorem xpst_round {l dd : Nat} {fn : FuncId} {T : Array Value} {p : Tmp} {assign body : Code} {Fr : List Ent} {B : List Ent → Prop} {X : Code → List Ent → Prop} (L : List Ent) (hL : B L) (hH : HSub H (lrec l (XRec fn T p assign body dd .busy none) :: dfr dd :: (L ++ Fr))) : XPst [] (roundPost P l (XOut l dd (XRec fn T p assign body dd) B X Fr)) .normal n F H := fun a w hD ha hw => by
  have hw' := hH w hw
  exact ⟨_, _, run_endRound none hw'.head, .inl ⟨L, hL, rfl, lrec_set hw'⟩⟩
theorem xpst_round_ret {l dd : Nat} {fn : FuncId} {T : Array Value} {p : Tmp} {assign body : Code} {Fr : List Ent} {B : List Ent → Prop} {X : Code → List Ent → Prop} (L : List Ent) (hL : X .ret L) (hH : HSub H (lrec l (XRec fn T p assign body dd .busy none) :: dfr dd :: (L ++ Fr))) : XPst [] (roundPost P l (XOut l dd (XRec fn T p assign body dd) B X Fr)) .ret n F H := fun a w hD ha hw => by
  have hw' := hH w hw
  exact ⟨_, _, run_endRound (some .ret) hw'.head, .inr ⟨.ret, L, hL, rfl, lrec_set hw'⟩⟩
/-- a round, out of the walk of its body -/
theorem roundX_of {F0 : Frm} {l dd : Nat} {fn : FuncId} {T : Array Value} {p : Tmp} {assign body : Code} {v : Value} {A : List Ent} {B : List Ent → Prop} {X : Code → List Ent → Prop} (hT : Ok F0 n { tmps := T, defers := [] }) (hp : Nat.blt p n = true)
    (h : ∀ Fr, XCod (some l) [] P (XAsg P l body (XOut l dd (XRec fn T p assign body dd) B X Fr)) n assign ((p, v) :: F0) (lrec l (XRec fn T p assign body dd .ready none) :: dfr dd :: (A ++ Fr))) : RoundX P l dd (XRec fn T p assign body dd) #[v] A B X := fun Fr w hw => by
  have hl : w.heap[l]? = some (.loop (XRec fn T p assign body dd .ready none)) := hw.head
  refine ⟨_, _, _, _, run_yield hl rfl, roundIn_of_wpIn trivial ?_⟩
  refine h Fr _ w rfl ?_ hw
  have h9 := hT.put (d := some p) (v := v) hp
  simpa [XRec, nod, Act.put, upd] using h9
/-- an iterator, called -/
def ICall (P : Program) (gf : FuncId) (args : List Value) (H : List Ent) (R : List Ent → Prop) : Prop := ∀ w, HeapOk H w → CallsIn Fence.wide 0 P gf args.toArray w fun e w' => ∃ v H', e = .returned v ∧ R H' ∧ HeapOk H' w'
theorem icall_heap {gf : FuncId} {args : List Value} {H' : List Ent} {R : List Ent → Prop} (hs : HSub H' H) (h : ICall P gf args H R) : ICall P gf args H' R := fun w hw => h w (hs w hw)
theorem xcod_range {gf : FuncId} [hc : Cal P gf] {lb : List Value} {g : Operand} {p : Tmp} {assign body : Code} {Hd : List Ent → Prop} {Hx : Code → List Ent → Prop} (hg : ev F g = some (.func (.func gf) #[] lb.toArray))
    (it : ∀ l dd fn T, Ok F n { tmps := T, defers := [] } → ICall P gf (.func (.yield l) #[] #[] :: lb) (lrec l (XRec fn T p assign body dd .ready none) :: dfr dd :: H) fun H' => (∃ L, Hd L ∧ H' = lrec l (XRec fn T p assign body dd .ready none) :: dfr dd :: L) ∨ ∃ c L, Hx c L ∧ H' = lrec l (XRec fn T p assign body dd .done (some c)) :: dfr dd :: L)
    (hdone : ∀ dd L, Hd L → XPst [{ target := .collected dd, args := #[] }] Q .normal n F (dfr dd :: L)) (hjump : ∀ c dd L, Hx c L → XCod none [{ target := .collected dd, args := #[] }] P Q n c F (dfr dd :: L)) : XCod none [] P Q n (.rangeFunc g #[p] assign body) F H := fun a w hD ha hw => by
  refine wpIn_rangeFunc fun fn _ => ?_
  have hW : HeapOk (lrec (w.heap.size + 1) (XRec fn a.tmps p assign body w.heap.size .ready none) :: dfr w.heap.size :: H) ((w.alloc (.deferred (some []))).alloc (.loop (XRec fn a.tmps p assign body w.heap.size .ready none))) := by
    have h1 : HeapOk (dfr w.heap.size :: H) (w.alloc (.deferred (some []))) := HeapOk.new hw (moved_alloc w _) (heap_alloc_new w _ : (w.alloc (.deferred (some []))).heap[w.heap.size]? = _) fun b hb => by (have : b = w.heap.size := hb); omega
    have hs : (w.alloc (.deferred (some []))).heap.size = w.heap.size + 1 := by simp
    refine HeapOk.new h1 (moved_alloc _ _) ?_ fun b hb => by (have : b = w.heap.size + 1 := hb); omega
    show _ = some (Obj.loop _)
    rw [← hs]
    exact heap_alloc_new (w.alloc (.deferred (some []))) _
  have hit := it (w.heap.size + 1) w.heap.size fn a.tmps ha _ hW
  refine ⟨w.heap.size + 1, [{ target := .collected w.heap.size, args := #[] }], (w.alloc (.deferred (some []))).alloc (.loop (XRec fn a.tmps p assign body w.heap.size .ready none)), { target := .fn (.func gf) lb.toArray, args := #[.func (.yield (w.heap.size + 1)) #[] #[]] }, (w.alloc (.deferred (some []))).alloc (.loop (XRec fn a.tmps p assign body w.heap.size .ready none)), gf, (Value.func (.yield (w.heap.size + 1)) #[] #[] :: lb).toArray, (w.alloc (.deferred (some []))).alloc (.loop (XRec fn a.tmps p assign body w.heap.size .ready none)), run_enterLoop_outer _ _ _ _ _, ?_, fun f' _ => trivial, ?_, fx_need, ?_⟩
  · simp only [resolve, nod_ev ha hg]
    simp [go_sem]
  · simp [invoke, go_sem, callFunc_run]
  · refine hit.mono fun e w' ⟨v, H', he, hH', hw'⟩ => ?_
    subst he
    rcases hH' with ⟨L, hL, rfl⟩ | ⟨c, L, hL, rfl⟩
    · have hl : w'.heap[w.heap.size + 1]? = some (.loop (XRec fn a.tmps p assign body w.heap.size .ready none)) := hw'.head
      refine ⟨none, _, run_endLoop hl (by simp [XRec]), ?_⟩
      exact hdone _ L hL _ _ (by simp [hD]) ha (lrec_set (r' := { XRec fn a.tmps p assign body w.heap.size .ready none with state := .exhausted }) hw').tail
    · have hl : w'.heap[w.heap.size + 1]? = some (.loop (XRec fn a.tmps p assign body w.heap.size .done (some c))) := hw'.head
      refine ⟨some c, _, run_endLoop hl (by simp [XRec]), ?_⟩
      exact hjump c _ L hL _ _ (by simp [hD]) ha (lrec_set (r' := { XRec fn a.tmps p assign body w.heap.size .done (some c) with state := .exhausted }) hw').tail
/-! ### functions -/
def XFin (P : Program) (fn : Func) (R : Value → List Ent → Prop) (Fr : List Ent) : Post := bodyPostM Fence.wide 0 P fn fun e w' => ∃ v H', e = .returned v ∧ R v H' ∧ HeapOk (H' ++ Fr) w'
theorem xok_start {n : Nat} {args : List Value} (hn : Nat.ble args.length n = true) : Ok (ini 0 args) n { tmps := args.toArray ++ Array.replicate (n - args.toArray.size) undef, defers := [] } := by
  refine ⟨rfl, ?_, ?_⟩
  · have := Nat.le_of_ble_eq_true hn
    simp; omega
  · intro t v ht
    obtain ⟨_, h2⟩ := look_ini args 0 t v ht
    simp only [Nat.sub_zero] at h2
    have hl := (List.getElem?_eq_some_iff.1 h2).1
    rw [Array.getElem?_append_left (by simpa using hl)]
    simpa using h2
theorem xspec_enter {f : FuncId} {fn : Func} {c : Code} {args : List Value} {H : List Ent} {R : Value → List Ent → Prop} {n : Nat} (hf : P.funcs[f]? = some fn) (hnt : fn.ntmps = n) (hb : fn.body = some c) (hn : Nat.ble args.length n = true)
    (h : ∀ Fr, XCod none [] P (XFin P fn R Fr) n c (ini 0 args) (H ++ Fr)) : Ct P f args H R := by
  refine ⟨fun Fr w hw => callsIn_wide.1 (callsIn_of_wp_marks (n := 0) hf hb trivial ?_)⟩
  subst hnt
  exact h Fr _ w rfl (xok_start hn) hw
theorem icall_enter {f : FuncId} {fn : Func} {c : Code} {args : List Value} {H : List Ent} {R : List Ent → Prop} {n : Nat} (hf : P.funcs[f]? = some fn) (hnt : fn.ntmps = n) (hb : fn.body = some c) (hn : Nat.ble args.length n = true)
    (h : XCod none [] P (XFin P fn (fun _ H' => R H') []) n c (ini 0 args) H) : ICall P f args H R := by
  intro w hw
  refine (callsIn_of_wp_marks (n := 0) hf hb trivial (R := fun e w' => ∃ v H', e = .returned v ∧ R H' ∧ HeapOk (H' ++ []) w') ?_).mono fun e w' ⟨v, H', h1, h2, h3⟩ => ⟨v, H', h1, h2, by rwa [List.append_nil] at h3⟩
  subst hnt
  exact h _ w rfl (xok_start hn) hw
theorem xpst_fin {fn : Func} {R' : Value → List Ent → Prop} {Fr : List Ent} {rs : List ResultVar} (hrs : fn.results = rs.toArray) {v : Value} (hr : Res P F H rs v) (H' : List Ent) (hR : R' v H') (hH : HSub H (H' ++ Fr)) : XPst [] (XFin P fn R' Fr) .ret n F H := fun a w hD ha hw => by
  show LeavesInM Fence.wide 0 P fn a.tmps _ a.defers .returning w
  rw [hD]
  exact ⟨v, hr.results (a := nod a) hrs ha hw, _, _, rfl, hR, hH w hw⟩
theorem xpst_fin_end {fn : Func} {R' : Value → List Ent → Prop} {Fr : List Ent} {rs : List ResultVar} (hrs : fn.results = rs.toArray) {v : Value} (hr : Res P F H rs v) (H' : List Ent) (hR : R' v H') (hH : HSub H (H' ++ Fr)) : XPst [] (XFin P fn R' Fr) .normal n F H := fun a w hD ha hw => by
  show LeavesInM Fence.wide 0 P fn a.tmps _ a.defers .returning w
  rw [hD]
  exact ⟨v, hr.results (a := nod a) hrs ha hw, _, _, rfl, hR, hH w hw⟩
theorem xpst_fin_mark {fn : Func} {R' : Value → List Ent → Prop} {Fr S : List Ent} {dd : Nat} {rs : List ResultVar} (hrs : fn.results = rs.toArray) {v : Value} (hS : HSub H (dfr dd :: S)) (hr : Res P F S rs v) (H' : List Ent) (hR : R' v H') (hH : HSub S (H' ++ Fr)) : XPst [{ target := .collected dd, args := #[] }] (XFin P fn R' Fr) .ret n F H := fun a w hD ha hw => by
  show LeavesInM Fence.wide 0 P fn a.tmps _ a.defers .returning w
  rw [hD]
  have hw' := hS w hw
  have hd : w.heap[dd]? = some (.deferred (some [])) := hw'.head
  refine ⟨by simp, .inl ⟨dd, _, rfl, run_takeDeferred hd, ?_⟩⟩
  have h2 := dfr_shut hw'
  exact ⟨v, hr.results (a := nod a) hrs ha h2, _, _, rfl, hR, hH _ h2⟩
end
end Go.Proofs.YtcbpeampjhegcaaDoor.sl
