/-
  The small separation logic: unsafe.SliceData, unsafe.String. Nothing here speaks of the program.
-/
import Derived.Test.YtknclflgghnojaaSlBld
import Derived.Lib.UnsafeStr
namespace Go.Proofs.Ytknclflgghnojaa.sl
open Go.RowKit kit
set_option linter.unusedVariables false
section
variable {P : Program} {n : Nat} {F : Frm} {H R : List Ent} {o : Oper} {x y z : Operand} {v u z' : Value} {T S : TypeId}
theorem q_sliceData {t m c : Nat} {a : Addr} (ho : o.op = .call { callee := .builtin .unsafeSliceData, args := #[x], argTypes := #[t] }) (hx : ev F x = some (.slice (some a) m c)) (hc : 0 < c) : Qt P n o F H (.pointer (some a)) := fun w a' ha hw => by
  simp [execOp, ho, resolve, invoke, builtin, ha.eval hx, Lib.run_unsafeSliceData_row _ _ _ a m c (by omega)]
theorem q_sliceDataN {t m c : Nat} (ho : o.op = .call { callee := .builtin .unsafeSliceData, args := #[x], argTypes := #[t] }) (hx : ev F x = some (.slice none m c)) : Qt P n o F H (.pointer none) := fun w a' ha hw => by
  simp [execOp, ho, resolve, invoke, builtin, ha.eval hx, Lib.run_unsafeSliceData_nil]
theorem q_unsafeStringN {pt it : Nat} {q : Option Addr} (ho : o.op = .call { callee := .builtin .unsafeString, args := #[x, y], argTypes := #[pt, it] }) (hx : ev F x = some (.pointer q)) (hy : ev F y = some (.int .i64 0)) : Qt P n o F H (.string (str [])) := fun w a' ha hw => by
  have h := Lib.run_unsafeString_none (P := P) a' pt it o.type q
  simp only [execOp, ho, resolve, invoke, builtin, List.map_toArray, List.map_cons, List.map_nil, ha.eval hx, ha.eval hy, Sem.run_bind, Sem.run_pure, Result.andThen_ok, h]
  rfl
theorem moved_freeze (w : World) (g k : Nat) : Moved (fun b => b = g) w (w.freeze ⟨g, 0, none⟩ k) := by
  have h := Lib.below_freeze (B := 0) (Below.refl 0 w) (p := ⟨g, 0, none⟩) (Nat.zero_le _) k
  refine ⟨h.os, h.tape, h.output, h.size, fun b hb hn => ?_⟩
  unfold World.freeze
  split
  · rfl
  · simp only [Array.getElem?_modify]
    rw [if_neg (fun e => hn e.symm)]
theorem opr_unsafeString {pt it e g c : Nat} {l : List UInt8} (hp : P.underlying pt = some (.pointer e)) (hc : P.cellsOf e = 1) (ho : o.op = .call { callee := .builtin .unsafeString, args := #[x, y], argTypes := #[pt, it] }) (hx : ev F x = some (.pointer (some ⟨g, 0, none⟩))) (hy : ev F y = some (.int .i64 (l.length : Int))) (p : Pick (own (.slice (some ⟨g, 0, none⟩) l.length c) e 1 l.length (flat fY l)) H R) (h0 : l ≠ []) :
    Opr P n o F H fun r H' => r = .string (str l) ∧ H' = R := fun Q a w next ha hw hn => by
  have hw' := hw.perm p.perm
  have hown : w.ownsRow 0 e 1 (.slice (some ⟨g, 0, none⟩) l.length c) l.length (flat fY l) := hw'.head
  rcases hown.2 with ⟨h, _⟩ | ⟨g', cap, cur, h, hb0, hg, h2, h3, h4, h5⟩
  · cases h
  · cases h
    have hr := Lib.run_unsafeString_row (P := P) w pt it o.type e hp hc g cur.size (by simp [World.shape?, hg]) l h0 (by omega) (by unfold maxLen at h3; omega) (by
      intro j b hj
      exact hown.cells (g := g) rfl j _ (by rw [flat_fY]; simp [Lib.byteCells, hj]))
    unfold Oper.wp
    simp only [execOp, ho, resolve, invoke, builtin, List.map_toArray, List.map_cons, List.map_nil, ha.eval hx, ha.eval hy, Sem.run_bind, Sem.run_pure, Result.andThen_ok, hr, Oper.upon]
    refine hn _ _ _ ⟨rfl, rfl⟩ ?_
    have hp2 := List.pairwise_cons.1 hw'.2
    exact ⟨fun f hf => Ent.keepM (hw'.1 f (List.mem_cons_of_mem _ hf)) (moved_freeze w g _) fun b hb hbg => hp2.1 f hf (.inl rfl) b (by subst hbg; rfl) hb, hp2.2⟩
end
end Go.Proofs.Ytknclflgghnojaa.sl
