/-
  The small separation logic: maps from numbers to whatever fits a variable, that the call itself has made; whether an entry is there is told. Nothing here speaks of the program.
-/
import Derived.Test.YtcbpeampjhegcaaDoorSlMapA
namespace Go.Proofs.YtcbpeampjhegcaaDoor.sl
open Go.RowKit kit Go.Maps Go.MapKept
set_option linter.unusedVariables false
def getI (o : Option Value) (zd : DataW Value) : DataW Value := match o with | some v => .held v | none => zd
/-- block b is a map of at most n entries that sends x to g x -/
def nmap (P : Program) (k : TypeId) (b n : Nat) (g : Int → Option Value) : Ent where
  excl := true
  foot j := j = b
  holds w := ∃ D : DataW Value, w.ownsMap P k rH b n D ∧ IsMap D ∧ ∀ x, okI x → ∀ zd, D.atKey (.int .i64 x) zd = getI (g x) zd
  lt h hk := by
    subst hk
    obtain ⟨D, h1, _⟩ := h
    exact h1.lt
  keep h _ _ _ _ hb := by
    obtain ⟨D, ⟨es, clock, h1, h2⟩, h3⟩ := h
    exact ⟨D, ⟨es, clock, by rw [hb b rfl]; exact h1, h2⟩, h3⟩
section
variable {P : Program} {n : Nat} {F : Frm} {H R : List Ent} {o : Oper} {x y z : Operand} {v u z' : Value} {T : TypeId}
theorem opr_makeMapN {k e : TypeId} [hm : Mp P T k e] (ho : o.op = .makeMap T none) : Opr P n o F H fun u H' => ∃ b, u = .map (some b) ∧ H' = nmap P k b 0 (fun _ => none) :: H := fun Q a w next ha hw hn => by
  unfold Oper.wp
  simp only [execOp, ho, Option.map_none, run_makeMap, Sem.run_bind, Sem.run_pure, Result.andThen_ok, Oper.upon]
  refine hn _ _ _ ⟨w.heap.size, rfl, rfl⟩ (HeapOk.new hw (moved_alloc w _) ?_ fun j hj => ?_)
  · exact ⟨_, World.ownsMap_made w P k _, isMap_empty, fun x _ zd => rfl⟩
  · have : j = w.heap.size := hj
    omega
theorem q_lookupN {k e : TypeId} {b m : Nat} {g : Int → Option Value} {key : Int} {by' : Nat} {agg : Bool} {sz : Nat} [hm : Mp P T k e] [hk : IntK P k .i64] [he : Ty P e agg sz by' z'] (ho : o.op = .lookup T x y true) (hx : ev F x = some (.map (some b))) (hy : ev F y = some (.int .i64 key)) (p : Pick (nmap P k b m g) H R) (hw : okI key)
    (hv : v = match g key with | some u => .tuple #[u, .bool true] | none => .tuple #[z', .bool false]) : Qt P n o F H v := fun a w ha hh => by
  obtain ⟨D, ⟨es, clock, hb, hF, hs, hD⟩, h2, h3⟩ := hh.1 _ p.mem
  subst hv
  have hr : (Instr.lookup T (.map (some b)) (.int .i64 key) true).run P w = .ok (match g key with | some u => .tuple #[u, .bool true] | none => .tuple #[z', .bool false]) w := by
    rcases fit_look true (int_keyed hk.h) hm.h (zero_run he w) hb hF (keyOf_int_mk hk.h hw) with ⟨r1, _, r2⟩ | ⟨e0, yy, _, _, r1, r2, r3, _⟩
    · have e1 := h3 key hw (.held z')
      have e2 := h3 key hw (.lit (.bool true))
      rw [hD, r2] at e1 e2
      cases hg : g key with
      | none => exact r1
      | some u =>
        rw [hg] at e1 e2
        simp [getI] at e1 e2
    · have e1 := h3 key hw (.held z')
      have e2 := h3 key hw (.lit (.bool true))
      rw [hD, r3] at e1 e2
      simp only [rH, Option.some.injEq] at r2
      subst r2
      cases hg : g key with
      | none =>
        rw [hg] at e1 e2
        simp [getI] at e1 e2
      | some u =>
        rw [hg] at e1
        simp [getI] at e1
        subst e1
        exact r1
  simp only [execOp, ho, ha.eval hx, ha.eval hy, hr, Sem.run_bind, Sem.run_pure, Result.andThen_ok]
theorem opr_mapUpdateN {k e : TypeId} {b m : Nat} {g : Int → Option Value} {key : Int} [hm : Mp P T k e] [hk : IntK P k .i64] (ho : o.op = .mapUpdate T x y z) (hx : ev F x = some (.map (some b))) (hy : ev F y = some (.int .i64 key)) (hz : ev F z = some u) (p : Pick (nmap P k b m g) H R) (hw : okI key) (hlt : m < maxLen) :
    Opr P n o F H fun v H' => v = undef ∧ H' = nmap P k b (m + 1) (fun j => if j = key then some u else g j) :: R := fun Q a w next ha hh hn => by
  have hh' := hh.perm p.perm
  obtain ⟨D, h1, h2, h3⟩ := hh'.head
  obtain ⟨w', hr, h4, h5⟩ := h1.update (int_keyed hk.h) hm.h hlt (keyOf_int_mk hk.h hw) (d := .held u) (ps := []) rfl
  unfold Oper.wp
  simp only [execOp, ho, ha.eval hx, ha.eval hy, ha.eval hz, hr, Sem.run_bind, Sem.run_pure, Result.andThen_ok, Oper.upon]
  refine hn _ _ _ ⟨rfl, rfl⟩ (HeapOk.upd hh' rfl ⟨h5.os, h5.tape, h5.output, h5.size, fun j hj hne => h5.block j hj (fun e => hne (show j = b from Option.some.inj e))⟩ ⟨_, h4, h2.put _ _, fun j hj zd => ?_⟩ fun j hj => .inl hj)
  show _ = getI (if j = key then some u else g j) zd
  by_cases e : j = key
  · subst e
    rw [if_pos rfl, atKey_put_same h2 (by trivial)]
    rfl
  · rw [if_neg e, atKey_put_other (by simpa using e), h3 j hj]
end
/-- 's[:k:k]' -/
theorem q_slice_hm {P : Program} {n : Nat} {F : Frm} {H : List Ent} {o : Oper} {x y y2 : Operand} {z' : Value} {t e sz by' N c m : Nat} {agg : Bool} {q : Option Addr} {k k2 : IntKind} {j j2 : Int} [ht : Sli P t e] [hs : Ty P e agg sz by' z'] (ho : o.op = .slice t x none (some y) (some y2)) (hx : ev F x = some (.slice q N c)) (hy : ev F y = some (.int k j)) (hy2 : ev F y2 = some (.int k2 j2)) (hj : j = (m : Int)) (hj2 : j2 = (m : Int)) (hm : m ≤ c) : Qt P n o F H (.slice q m m) := fun a w ha hw => by
  subst hj
  subst hj2
  have he : P.elem t = e := by simp [Program.elem, ht.h]
  have hu : P.underlying t = some (.slice (P.elem t)) := by rw [he]; exact ht.h
  have h1 := run_slice_hm (P := P) w t q N c hu k k2 (m : Int) (m : Int) (by omega) (by omega) (by omega)
  rw [he, sizeOf_run hs] at h1
  have hv : sliced q 0 ((m : Int)).toNat ((m : Int)).toNat sz = .slice q m m := by
    simp [sliced, Addr.add]
  simp only [Result.andThen_ok, hv] at h1
  simp only [execOp, ho, Option.map_some, Option.map_none, ha.eval hx, ha.eval hy, ha.eval hy2, Sem.run_bind, Sem.run_pure, run_sliceAt_slice w t _ _ _ _ hu, h1, Result.andThen_ok]
theorem run_ownc {P : Program} {ops : Array Oper} {Q : Post} {n : Nat} {F : Frm} {H R : List Ent} {l : List Oper} {q : Option Addr} {e sz m c : Nat} {xs : List Value} (p : Pick (own (.slice q m c) e sz m xs) H R) (k : m ≤ c → Run P ops Q n l F H) : Run P ops Q n l F H := fun a w ha hw => by
  have hw' := hw.perm p.perm
  have h : w.ownsRow 0 e sz (.slice q m c) m xs := hw'.head
  refine k ?_ a w ha hw
  rcases h.2 with ⟨h1, h2⟩ | ⟨g, cap, cur, h1, _, _, h2, _⟩
  · omega
  · cases h1
    exact h2
end Go.Proofs.YtcbpeampjhegcaaDoor.sl
