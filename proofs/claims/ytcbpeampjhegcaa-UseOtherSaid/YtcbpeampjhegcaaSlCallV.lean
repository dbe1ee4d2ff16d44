/-
  The small separation logic: a call through a function value, what it reads is lent. Nothing here speaks of the program.
-/
import Derived.Test.YtcbpeampjhegcaaSlStr3
namespace Go.Proofs.Ytcbpeampjhegcaa.sl
open Go.RowKit kit
set_option linter.unusedVariables false
section
variable {P : Program} {n : Nat} {F : Frm} {H R : List Ent} {o : Oper} {x y z : Operand} {v u z' : Value} {T : TypeId}
theorem opr_callv_l {f : FuncId} [hc : Cal P f] {x : Operand} {first cap : List Value} {args : List Operand} {ts : Array TypeId} {vs ws : List Value} {C S : List Ent} {Rs : Value → List Ent → Prop} [hX : Xcl Rs] (ho : o.op = .call { callee := .value x, args := args.toArray, argTypes := ts }) (hx : ev F x = some (.func (.func f) first.toArray cap.toArray)) (hv : evl F args = some vs) (hs : Ct P f ws C Rs) (hw : first ++ vs ++ cap = ws) (p : Lp C H S) : Opr P n o F H fun v H' => ∃ H1, Rs v H1 ∧ H' = H1 ++ S := fun Q a w next ha hw' hn => by
  subst hw
  have he := evl_eval ha hv
  have e1 : args.toArray.map a.eval = vs.toArray := by simpa using he
  have e2 : first.toArray ++ vs.toArray ++ cap.toArray = (first ++ vs ++ cap).toArray := by simp
  unfold Oper.wp
  simp only [execOp, ho, resolve, Deferred.ofValue, ha.eval hx, invoke, e1, e2, Sem.run_bind, Sem.run_pure, Result.andThen_ok, callFunc_run, Oper.upon]
  refine (hs.go _ w (p.ok hw')).mono ?_
  rintro e w' ⟨v, H1, rfl, h1, h2⟩
  exact hn v _ w' ⟨H1, h1, rfl⟩ (p.back hw' (hX.h v H1 h1) h2)
theorem opr_callv_ls {f : FuncId} [hc : Cal P f] {x : Operand} {first cap : List Value} {args : List Operand} {ts : Array TypeId} {vs ws : List Value} {C S : List Ent} {u : Value} (ho : o.op = .call { callee := .value x, args := args.toArray, argTypes := ts }) (hx : ev F x = some (.func (.func f) first.toArray cap.toArray)) (hv : evl F args = some vs) (hs : Ct P f ws C fun v H' => v = u ∧ H' = []) (hw : first ++ vs ++ cap = ws) (p : Lp C H S) : Opr P n o F H fun v H' => v = u ∧ H' = S := fun Q a w next ha hw' hn =>
  opr_callv_l ho hx hv hs hw p Q a w next ha hw' fun v H' w' ⟨H1, ⟨h1, h2⟩, h3⟩ hw' => hn v H' w' ⟨h1, by rw [h3, h2]; rfl⟩ hw'
end
end Go.Proofs.Ytcbpeampjhegcaa.sl
