/-
  The small separation logic: in a region that draws its order, what looks at no memory is taken ahead of all. Nothing here speaks of the program.
-/
import Derived.Test.YtppnaofebkpbkaaSlStr3
namespace Go.Proofs.Ytppnaofebkpbkaa.sl
open Go.RowKit kit
set_option linter.unusedVariables false
def PreD (P : Program) (ops : Array Oper) (Q : Post) (n m : Nat) (L : Array Bool) (F : Frm) (H : List Ent) : Prop := ∀ a w, Ok F n a → HeapOk H w → wpAny P .any ops (calm Q) m L a w
def mayPre (ops : Array Oper) (L : Array Bool) (i : Nat) : Bool := Region.noSelect ops && Region.free .any ops L i && (Region.ready .any ops L).contains i
section
variable {P : Program} {ops : Array Oper} {Q : Post} {n m : Nat} {L : Array Bool} {F : Frm} {H : List Ent}
theorem cod_pre {id : Nat} {l : List Oper} (hm : P.follows .mixedOrders = true) (hl : l.length = m) (h : PreD P l.toArray Q n m (Array.replicate m false) F H) : Cod P Q n (.region id l.toArray true) F H := fun a w ha hw => by
  subst hl
  have h2 := h a _ ha hw.drew
  refine wp_mono (wp_region_any hm (Q := calm Q) (by simpa using h2)) ?_
  intro e a w hq
  cases e <;> first | exact hq | exact hq.elim
theorem heap_none (w : World) : HeapOk [] w := ⟨fun e he => absurd he List.not_mem_nil, List.Pairwise.nil⟩
theorem pre_take (i : Nat) {d : Nat} {op : Op} {ty : TypeId} {ps : String} {af : Array Edge} {g : Option (Nat × Bool)} {v : Value} (hi : ops[i]? = some ⟨some d, op, ty, ps, af, g⟩) (hg : Wtd ops F ⟨some d, op, ty, ps, af, g⟩) (hb : mayPre ops L i = true) (hd : Nat.blt d n = true) (hq : Qt P n ⟨some d, op, ty, ps, af, g⟩ F [] v)
    (h : PreD P ops Q n m (L.setIfInBounds i true) ((d, v) :: F) H) : PreD P ops Q n (m + 1) L F H := fun a w ha hw => by
  simp only [mayPre, Bool.and_eq_true] at hb
  obtain ⟨⟨h1, h2⟩, h3⟩ := hb
  exact wpAny_take hi h1 h2 h3 (fun c a w h => h) (.inl ⟨hg.wanted ha, fun w => hq a w ha (heap_none w)⟩) (h _ w (ha.put (d := some d) hd) hw)
theorem pre_drn {Hq : List Ent} {nk : List Nat} {r i : Nat} (h : DrnK P ops Q n Hq nk r i m L F H) : PreD P ops Q n m L F H := fun a w ha hw => AnyS.any _ _ _ _ (h a w ha hw)
/-- an element's place, by the slice alone -/
theorem q_index_at {x y : Operand} {o : Oper} {z' : Value} {t e sz i mm cc by' g : Nat} {k : IntKind} {agg : Bool} [ht : Sli P t e] [hs : Ty P e agg sz by' z'] (ho : o.op = .indexAddr t x y) (hx : ev F x = some (.slice (some ⟨g, 0, none⟩) mm cc)) (hy : ev F y = some (.int k (i : Int))) (hi : i < mm) : Qt P n o F H (eptr (.slice (some ⟨g, 0, none⟩) mm cc) i sz 0) := fun a w ha hw => by
  simp only [execOp, ho, ha.eval hx, ha.eval hy, Sem.run_bind, Sem.run_pure, Result.andThen_ok, index_run (P := P) (t := t) hi, eptr, eaddr, Nat.add_zero]
theorem cod_shapeN {c : Code} {R : List Ent} {q : Option Addr} {e sz mm cp : Nat} {xs : List Value} (p : Pick (own (.slice q mm cp) e sz mm xs) H R) (hm : 0 < mm) (k : ∀ g, q = some ⟨g, 0, none⟩ → mm ≤ cp → Cod P Q n c F H) : Cod P Q n c F H := fun a w ha hw => by
  have hb : w.ownsRow 0 e sz (.slice q mm cp) mm xs := (hw.perm p.perm).head
  rcases hb.2 with ⟨h, h0⟩ | ⟨g, cap, cur, h, _, _, h2, _⟩
  · omega
  · cases h
    exact k g rfl h2 a w ha hw
end
end Go.Proofs.Ytppnaofebkpbkaa.sl
