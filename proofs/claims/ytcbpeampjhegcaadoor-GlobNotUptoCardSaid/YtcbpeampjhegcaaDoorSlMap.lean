/-
  The small separation logic: maps from numbers to numbers that the call itself has made. Nothing here speaks of the program.
-/
import Derived.Test.YtcbpeampjhegcaaDoorSlLend
import Derived.Maps.Own
import Derived.Maps.OwnSet
import Derived.MapKept
namespace Go.Proofs.YtcbpeampjhegcaaDoor.sl
open Go.RowKit kit Go.Maps Go.MapKept
set_option linter.unusedVariables false

def okI (x : Int) : Prop := (Lit.int .i64 x).wf = true
/-- block b is a map of at most n entries that sends x to g x -/
def imap (P : Program) (k e : TypeId) (b n : Nat) (g : Int → Int) : Ent where
  excl := true
  foot j := j = b
  holds w := ∃ D : DataW Unit, w.ownsMap P k (plainElem P e) b n D ∧ IsMap D ∧ ∀ x, okI x → D.atKey (.int .i64 x) (.lit (.int .i64 0)) = .lit (.int .i64 (g x))
  lt h hk := by
    subst hk
    obtain ⟨D, h1, _⟩ := h
    exact h1.lt
  keep h _ _ _ _ hb := by
    obtain ⟨D, ⟨es, clock, h1, h2⟩, h3⟩ := h
    exact ⟨D, ⟨es, clock, by rw [hb b rfl]; exact h1, h2⟩, h3⟩
section
variable {P : Program} {n : Nat} {F : Frm} {H R : List Ent} {o : Oper} {x y z : Operand} {v u z' : Value} {T : TypeId}
theorem opr_makeMap {k e : TypeId} [hm : Mp P T k e] (ho : o.op = .makeMap T none) : Opr P n o F H fun u H' => ∃ b, u = .map (some b) ∧ H' = imap P k e b 0 (fun _ => 0) :: H := fun Q a w next ha hw hn => by
  unfold Oper.wp
  simp only [execOp, ho, Option.map_none, run_makeMap, Sem.run_bind, Sem.run_pure, Result.andThen_ok, Oper.upon]
  refine hn _ _ _ ⟨w.heap.size, rfl, rfl⟩ (HeapOk.new hw (moved_alloc w _) ?_ fun j hj => ?_)
  · exact ⟨_, World.ownsMap_made w P k _, isMap_empty, fun x _ => rfl⟩
  · have : j = w.heap.size := hj
    omega
theorem q_lookup {k e : TypeId} {b m : Nat} {g : Int → Int} {key : Int} {by' : Nat} [hm : Mp P T k e] [hk : IntK P k .i64] [hi : IntK P e .i64] [he : Ty P e false 1 by' (.int .i64 0)] (ho : o.op = .lookup T x y false) (hx : ev F x = some (.map (some b))) (hy : ev F y = some (.int .i64 key)) (p : Pick (imap P k e b m g) H R) (hw : okI key) : Qt P n o F H (.int .i64 (g key)) := fun a w ha hh => by
  obtain ⟨D, h1, h2, h3⟩ := hh.1 _ p.mem
  obtain ⟨c, hr, hc, _⟩ := h1.lookup_int (int_keyed hk.h) hm.h hi.h (zero_run he w) (keyOf_int_mk hk.h hw)
  have e1 := h3 key hw
  rw [hc] at e1
  cases e1
  simp only [execOp, ho, ha.eval hx, ha.eval hy, hr, Sem.run_bind, Sem.run_pure, Result.andThen_ok]
theorem opr_mapUpdate {k e : TypeId} {b m : Nat} {g : Int → Int} {key val : Int} [hm : Mp P T k e] [hk : IntK P k .i64] [hi : IntK P e .i64] (ho : o.op = .mapUpdate T x y z) (hx : ev F x = some (.map (some b))) (hy : ev F y = some (.int .i64 key)) (hz : ev F z = some (.int .i64 val)) (p : Pick (imap P k e b m g) H R) (hw : okI key) (hv : okI val) (hlt : m < maxLen) :
    Opr P n o F H fun u H' => u = undef ∧ H' = imap P k e b (m + 1) (fun j => if j = key then val else g j) :: R := fun Q a w next ha hh hn => by
  have hh' := hh.perm p.perm
  obtain ⟨D, h1, h2, h3⟩ := hh'.head
  obtain ⟨w', hr, h4, h5⟩ := h1.update (int_keyed hk.h) hm.h hlt (keyOf_int_mk hk.h hw) (plainElem_int hi.h hv)
  unfold Oper.wp
  simp only [execOp, ho, ha.eval hx, ha.eval hy, ha.eval hz, hr, Sem.run_bind, Sem.run_pure, Result.andThen_ok, Oper.upon]
  refine hn _ _ _ ⟨rfl, rfl⟩ (HeapOk.upd hh' rfl ⟨h5.os, h5.tape, h5.output, h5.size, fun j hj hne => h5.block j hj (fun e => hne (show j = b from Option.some.inj e))⟩ ⟨_, h4, h2.put _ _, fun j hj => ?_⟩ fun j hj => .inl hj)
  show _ = DataW.lit (.int .i64 (if j = key then val else g j))
  by_cases e : j = key
  · subst e
    rw [if_pos rfl, atKey_put_same h2 (by trivial)]
  · rw [if_neg e, atKey_put_other (by simpa using e), h3 j hj]
theorem clear_run {k e : TypeId} {b : Nat} {es : Array MapEntry} {clock : Nat} {ty : TypeId} {w : World} (hm : P.underlying T = some (.map k e)) (hb : w.heap[b]? = some (.map es clock)) :
    ∃ w', (Builtin.clear_ #[T] ty #[.map (some b)]).run P w = .ok (.tuple #[]) w' ∧ w'.heap[b]? = some (.map #[] clock) ∧ Moved (fun j => j = b) w w' := by
  refine ⟨{ w with heap := w.heap.setIfInBounds b (.map #[] clock) }, ?_, (heap_set hb).1, ⟨rfl, rfl, rfl, by simp, fun r' _ hne => (heap_set hb).2 r' hne⟩⟩
  simp [Builtin.clear_, run_underlying hm, Go.MapKept.run_getObj_map hb, Go.MapKept.run_setObj_map _ hb, Result.andThen]
theorem opr_clear {k e : TypeId} {b m : Nat} {g : Int → Int} [hm : Mp P T k e] (ho : o.op = .call { callee := .builtin .clear, args := #[x], argTypes := #[T] }) (hx : ev F x = some (.map (some b))) (p : Pick (imap P k e b m g) H R) :
    Opr P n o F H fun u H' => u = .tuple #[] ∧ H' = imap P k e b 0 (fun _ => 0) :: R := fun Q a w next ha hh hn => by
  have hh' := hh.perm p.perm
  obtain ⟨D, ⟨es, clock, hb, hF, _⟩, h2, h3⟩ := hh'.head
  obtain ⟨w', hr, h4, h5⟩ := clear_run (ty := o.type) hm.h hb
  unfold Oper.wp
  simp only [execOp, ho, resolve, invoke, builtin, List.map_toArray, List.map_cons, List.map_nil, ha.eval hx, hr, Sem.run_bind, Sem.run_pure, Result.andThen_ok, Oper.upon]
  refine hn _ _ _ ⟨rfl, rfl⟩ (HeapOk.upd hh' rfl h5 ⟨.map [], ⟨#[], clock, h4, ⟨by simp, stamped_empty _, by simp⟩, Nat.le_refl _, rfl⟩, isMap_empty, fun j _ => rfl⟩ fun j hj => .inl hj)
end
end Go.Proofs.YtcbpeampjhegcaaDoor.sl
