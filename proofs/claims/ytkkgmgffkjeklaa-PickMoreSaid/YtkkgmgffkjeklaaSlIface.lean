/-
  The small separation logic: interface values, calls of their methods, fields of values. Nothing here speaks of the program.
-/
import Derived.Test.YtkkgmgffkjeklaaSlCallV
namespace Go.Proofs.Ytkkgmgffkjeklaa.sl
open Go.RowKit kit
set_option linter.unusedVariables false
def isIfaceD : TypeDesc → Bool
  | .interface _ => true
  | _ => false
/-- a type of values that are no interfaces -/
class Conc (P : Program) (t : TypeId) : Prop where
  h : (P.underlying t).map isIfaceD = some false
/-- a pointer's type -/
class Ptr (P : Program) (t : TypeId) (e : outParam TypeId) : Prop where
  h : P.underlying t = some (.pointer e)
/-- the row of a method: no step on the way -/
class MRow (P : Program) (t : TypeId) (name : String) (f : outParam FuncId) (ptr : outParam Bool) : Prop where
  h : ((P.info? t).bind fun i => i.methods.find? (·.name == name)).map (fun m => (m.path.size, m.func)) = some (0, some (f, ptr))
  sz : ∃ m, P.types.size = m + 1
section
variable {P : Program} {n : Nat} {F : Frm} {H R : List Ent} {o : Oper} {x y z : Operand} {v u z' : Value} {T : TypeId}
theorem q_mkIface [hc : Conc P T] (ho : o.op = .makeInterface T x) (hx : ev F x = some v) : Qt P n o F H (.iface T v) := fun a w ha hw => by
  have h := hc.h
  cases hd : P.underlying T with
  | none => rw [hd] at h; cases h
  | some d =>
    rw [hd] at h
    cases d <;> first | (simp [isIfaceD] at h; done) | simp [execOp, ho, Instr.makeInterface, run_underlying hd, ha.eval hx, Result.andThen]
theorem q_tassert {A : TypeId} {xt : TypeId} [hc : Conc P A] (ho : o.op = .typeAssert x xt A false) (hx : ev F x = some (.iface A v)) : Qt P n o F H v := fun a w ha hw => by
  have h := hc.h
  cases hd : P.underlying A with
  | none => rw [hd] at h; cases h
  | some d =>
    rw [hd] at h
    cases d <;> first | (simp [isIfaceD] at h; done) | simp [execOp, ho, Instr.typeAssert, run_underlying hd, ha.eval hx, Result.andThen]
theorem method_row {t : TypeId} {name : String} {f : FuncId} {ptr : Bool} (hr : MRow P t name f ptr) (v : Value) (w : World) (k : Nat) :
    (method (P.types.size + k) t v name).run P w = ((receiverAt t (.val v) ptr (some ((name.splitOn ".").getLastD name))).run P w).andThen fun r w => .ok (f, r) w := by
  have h := hr.h
  obtain ⟨m, hm⟩ := hr.sz
  obtain ⟨q, hq, e⟩ := Option.map_eq_some_iff.1 h
  obtain ⟨i, hi, hf⟩ := Option.bind_eq_some_iff.1 hq
  simp only [Prod.mk.injEq] at e
  obtain ⟨e1, e2⟩ := e
  have e3 : q.path = #[] := Array.eq_empty_of_size_eq_zero e1
  rw [hm, show m + 1 + k = (m + k) + 1 by omega]
  have ht : (typeInfo t).run P w = .ok i w := by simp [typeInfo, hi]
  unfold method
  simp only [Sem.run_bind, ht, Result.andThen_ok, hf, e3, e2, follow, Sem.run_pure]
  rfl
theorem recv_ptr {t e : TypeId} [hp : Ptr P t e] (v : Value) (nm : Option String) (w : World) : (receiverAt t (.val v) true nm).run P w = .ok v w := by
  simp [receiverAt, run_underlying hp.h, Place.get, Result.andThen]
theorem recv_val {t e by' b : Nat} {tb : TypeId} [hp : Ptr P t e] [ht : Ty P e false 1 by' z'] (nm : String) {w : World} (hb : w.heap[b]? = some (.cells #[v] tb (0, 0))) : (receiverAt t (.val (bptr b 0)) false (some nm)).run P w = .ok v w := by
  have := loadVar_run ht w ⟨b, 0, none⟩ [v] rfl (fun j u hj => by
    rw [addr_add, box_cells (cs := [v]) hb]
    simpa using hj) (valOf_one v)
  have hc : (Builtin.ssaWrapNilChk_ #[t] t #[bptr b 0, strVal "", strVal nm]).run P w = .ok (bptr b 0) w := rfl
  unfold receiverAt
  simp only [Sem.run_bind, run_underlying hp.h, Result.andThen_ok, Place.get, Sem.run_pure, hc]
  simp [bptr, asAddr, Result.andThen, this]
theorem opr_invoke {t : TypeId} {name : String} {f : FuncId} {ptr : Bool} [hc : Cal P f] [hr : MRow P t name f ptr] {recv rv : Value} {args : List Operand} {ts : Array TypeId} {vs : List Value} {C S : List Ent} {Rs : Value → List Ent → Prop} [hX : Xcl Rs] (ho : o.op = .call { callee := .invoke x name, args := args.toArray, argTypes := ts }) (hx : ev F x = some (.iface t recv))
    (hrecv : ∀ w, HeapOk H w → (receiverAt t (.val recv) ptr (some ((name.splitOn ".").getLastD name))).run P w = .ok rv w) (hs : Ct P f (rv :: vs) C Rs) (hv : evl F args = some vs) (p : Lp C H S) : Opr P n o F H fun v H' => ∃ H1, Rs v H1 ∧ H' = H1 ++ S := fun Q a w next ha hw hn => by
  have he := evl_eval ha hv
  have e1 : args.toArray.map a.eval = vs.toArray := by simpa using he
  have hm : ∀ k, (method (P.types.size + k) t recv name).run P w = .ok (f, rv) w := fun k => by rw [method_row hr, hrecv w hw]; rfl
  unfold Oper.wp
  have e2 : (#[Value.iface t recv] ++ vs.toArray)[0]? = some (.iface t recv) := by simp
  have e3 : (#[Value.iface t recv] ++ vs.toArray).extract 1 (#[Value.iface t recv] ++ vs.toArray).size = vs.toArray := by simp
  simp only [execOp, ho, resolve, ha.eval hx, invoke, e1, e2, e3, Sem.run_bind, Sem.run_pure, Result.andThen_ok, callMethod]
  have hp : (program).run P w = .ok P w := by simp
  have e4 : #[rv] ++ vs.toArray = (rv :: vs).toArray := by simp
  simp only [hp, Result.andThen_ok, hm, callFunc_run, Oper.upon, e4]
  refine (hs.go _ w (p.ok hw)).mono ?_
  rintro e w' ⟨v, H1, rfl, h1, h2⟩
  exact hn v _ w' ⟨H1, h1, rfl⟩ (p.back hw (hX.h v H1 h1) h2)
theorem opr_invoke_s {t : TypeId} {name : String} {f : FuncId} {ptr : Bool} [hc : Cal P f] [hr : MRow P t name f ptr] {recv rv : Value} {args : List Operand} {ts : Array TypeId} {vs : List Value} {C S : List Ent} {u : Value} (ho : o.op = .call { callee := .invoke x name, args := args.toArray, argTypes := ts }) (hx : ev F x = some (.iface t recv))
    (hrecv : ∀ w, HeapOk H w → (receiverAt t (.val recv) ptr (some ((name.splitOn ".").getLastD name))).run P w = .ok rv w) (hs : Ct P f (rv :: vs) C fun v H' => v = u ∧ H' = []) (hv : evl F args = some vs) (p : Lp C H S) : Opr P n o F H fun v H' => v = u ∧ H' = S := fun Q a w next ha hw hn =>
  opr_invoke ho hx hrecv hs hv p Q a w next ha hw fun v H' w' ⟨H1, ⟨h1, h2⟩, h3⟩ hw' => hn v H' w' ⟨h1, by rw [h3, h2]; rfl⟩ hw'
/-- the receiver read through the pointer -/
theorem recv_box {t e by' b : Nat} {tb : TypeId} [hp : Ptr P t e] [ht : Ty P e false 1 by' z'] {nm : String} (p : Pick (box b [v] tb) H R) : ∀ w, HeapOk H w → (receiverAt t (.val (bptr b 0)) false (some nm)).run P w = .ok v w := fun w hw => recv_val nm (hw.1 _ p.mem)
theorem recv_self {t e b : Nat} [hp : Ptr P t e] {nm : Option String} : ∀ w, HeapOk H w → (receiverAt t (.val (bptr b 0)) true nm).run P w = .ok (bptr b 0) w := fun w _ => recv_ptr _ nm w
end
end Go.Proofs.Ytkkgmgffkjeklaa.sl
