/-
  The small separation logic: more operations. Nothing here speaks of the program.
-/
import Derived.Test.YtcbpeampjhegcaaSlStr2
import Derived.Lib.BufferWrite
namespace Go.Proofs.Ytcbpeampjhegcaa.sl
open Go.RowKit kit
set_option linter.unusedVariables false
section
variable {P : Program} {n : Nat} {F : Frm} {H R : List Ent} {o : Oper} {x y z : Operand} {v u z' : Value} {T S : TypeId}
theorem q_max {t : Nat} {k : IntKind} {i j : Int} (ho : o.op = .call { callee := .builtin .max, args := #[x, y], argTypes := #[t, t] }) (hx : ev F x = some (.int k i)) (hy : ev F y = some (.int k j)) : Qt P n o F H (.int k (max i j)) := fun a w ha hw => by
  simp [execOp, ho, resolve, invoke, builtin, ha.eval hx, ha.eval hy, Builtin.max_, Builtin.max2, ite_max]
/-- what of a slice stands behind a place -/
def cutv (v : Value) (k : Nat) : Value :=
  match v with
  | .slice (some a) m c => .slice (some (a.add k)) (m - k) (c - k)
  | u => u
theorem q_cutp {t e by' m c j : Nat} {k : IntKind} {i : Int} {agg : Bool} {ad : Addr} [ht : Sli P t e] [hs : Ty P e agg 1 by' z'] (ho : o.op = .slice t x (some y) none none) (hx : ev F x = some (.slice (some ad) m c)) (hy : ev F y = some (.int k i)) (hi : i = (j : Int)) (hj : j < m) (hc : m ≤ c) : Qt P n o F H (.slice (some (ad.add j)) (m - j) (c - j)) := fun a w ha hw => by
  subst hi
  have he : P.elem t = e := by simp [Program.elem, ht.h]
  have hu : P.underlying t = some (.slice (P.elem t)) := by rw [he]; exact ht.h
  have h1 := run_slice_l (P := P) w t (some ad) m c hu k (j : Int) (by omega) (by omega)
  rw [he, sizeOf_run hs] at h1
  have hv : sliced (some ad) ((j : Int)).toNat m c 1 = .slice (some (ad.add j)) (m - j) (c - j) := by
    unfold sliced
    rw [Int.toNat_natCast, if_neg (by omega), Nat.mul_one]
    rfl
  simp only [Result.andThen_ok, hv] at h1
  simp only [execOp, ho, Option.map_some, Option.map_none, ha.eval hx, ha.eval hy, Sem.run_bind, Sem.run_pure, run_sliceAt_slice w t _ _ _ _ hu, h1, Result.andThen_ok]
theorem cod_shape {c : Code} {Q : Post} {q : Option Addr} {e m cp : Nat} {xs : List Value} (p : Pick (own (.slice q m cp) e 1 m xs) H R) (hm : 0 < m) (k : ∀ g, q = some ⟨g, 0, none⟩ → m ≤ cp → Cod P Q n c F H) : Cod P Q n c F H := fun a w ha hw => by
  have hb : w.ownsRow 0 e 1 (.slice q m cp) m xs := (hw.perm p.perm).head
  rcases hb.2 with ⟨h, h0⟩ | ⟨g, cap, cur, h, _, _, h2, _⟩
  · omega
  · cases h
    exact k g rfl h2 a w ha hw
theorem take_splice {α : Type} {A B : List α} {k m : Nat} (h : k + B.length ≤ m) (hm : m ≤ A.length) : (A.take k ++ B ++ A.drop (k + B.length)).take m = (A.take m).take k ++ B ++ (A.take m).drop (k + B.length) := by
  apply List.ext_getElem?
  intro i
  simp only [List.getElem?_take, List.getElem?_append, List.length_append, List.length_take, List.getElem?_drop]
  repeat' split
  all_goals first | rfl | omega | (congr 1; omega) | skip
theorem flat_fY (l : List UInt8) : flat fY l = Lib.byteCells l := by
  induction l with
  | nil => rfl
  | cons b l ih =>
    show fY b ++ flat fY l = _
    rw [ih]
    rfl
theorem opr_copy_at {e by' m k : Nat} {agg : Bool} {l xs : List UInt8} {u : Value} {tt : TypeId} (hu : u = cutv v k ∨ (u = v ∧ k = 0)) [ht : Sli P T e] [hs : Ty P e agg 1 by' z'] (ho : o.op = .call { callee := .builtin .copy, args := #[x, y], argTypes := #[T, tt] }) (hx : ev F x = some u) (hy : ev F y = some (.string (str l))) (p : Pick (own v e 1 m (flat fY xs)) H R) (hm : k + l.length ≤ m) (hk : l.length = 0 ∨ k < m) :
    Opr P n o F H fun r H' => r = .int .i64 (l.length : Int) ∧ H' = own v e 1 m (flat fY (xs.take k ++ l ++ xs.drop (k + l.length))) :: R := fun Q a w next ha hw hn => by
  have hw' := hw.perm p.perm
  have hb : w.ownsRow 0 e 1 v m (flat fY xs) := hw'.head
  obtain ⟨it, dt, e1, _, _, e2, _, _⟩ := hs.info
  have hsz : (P.info? e).map (·.size) = some 1 := by rw [e1]; simp [e2]
  have hsz2 : ((P.info? e).map (·.size)).isSome = true := by rw [hsz]; rfl
  have hls : (str l).size = l.length := str_size l
  rcases hb.2 with ⟨hv, h0⟩ | ⟨g, cap, cur, hv, hb0, hg, h2, h3, h4, h5⟩
  · have hl0 : l = [] := List.eq_nil_of_length_eq_zero (by omega)
    have hk0 : k = 0 := by omega
    have hu2 : u = .slice none 0 0 := by
      rcases hu with h | ⟨h, _⟩
      · rw [h, hv]; rfl
      · rw [h, hv]
    have hr := Lib.run_copy_empty_string (P := P) w T tt o.type e none 0 0 (str l) ht.h hsz2 (by rw [hls, hl0]; rfl)
    unfold Oper.wp
    simp only [execOp, ho, resolve, invoke, builtin, List.map_toArray, List.map_cons, List.map_nil, ha.eval hx, ha.eval hy, hu2, Sem.run_bind, Sem.run_pure, Result.andThen_ok, hr, Oper.upon]
    refine hn _ _ _ ⟨by rw [hl0]; rfl, rfl⟩ ?_
    rw [hl0, hk0]
    simpa using hw'
  · have hu2 : u = .slice (some ⟨g, k, none⟩) (m - k) (cap - k) := by
      rcases hu with h | ⟨h, h9⟩
      · rw [h, hv]
        show Value.slice (some ((⟨g, 0, none⟩ : Addr).add k)) (m - k) (cap - k) = _
        rw [show (⟨g, 0, none⟩ : Addr).add k = ⟨g, k, none⟩ from by unfold Addr.add; split <;> simp_all]
      · rw [h, hv, h9]; rfl
    have hcl : cur.toList.length = cap := by simpa using h4
    have hr := Lib.run_copy_row_string (P := P) w T tt o.type e g k (m - k) (cap - k) (str l) cur e ht.h hsz hg (by rw [hls]; omega) (by rw [hls]; simp only [Array.length_toList] at hcl; omega)
    rw [hls] at hr
    unfold Oper.wp
    simp only [execOp, ho, resolve, invoke, builtin, List.map_toArray, List.map_cons, List.map_nil, ha.eval hx, ha.eval hy, hu2, Sem.run_bind, Sem.run_pure, Result.andThen_ok, hr, Oper.upon]
    have hbl : (Lib.byteCells l).length = l.length := Lib.byteCells_length l
    have hxl : xs.length = m := by
      have h9 := hb.1
      rw [flat_fY, Lib.byteCells_length] at h9
      omega
    have key : flat fY (xs.take k ++ l ++ xs.drop (k + l.length)) = (flat fY xs).take k ++ Lib.byteCells l ++ (flat fY xs).drop (k + l.length) := by
      simp only [flat_fY, Lib.byteCells, List.map_append, List.map_take, List.map_drop]
    refine hn _ _ _ ⟨rfl, rfl⟩ (HeapOk.upd hw' rfl (moved_setRow w g _ _ (by rw [hv]; rfl)) ⟨?_, .inr ⟨g, cap, _, hv, hb0, setRow_heap w g _ _ e _ hg, h2, h3, ?_, ?_⟩⟩ fun k hk => .inl hk)
    · rw [flat_fY, Lib.byteCells_length]
      simp only [List.length_append, List.length_take, List.length_drop]
      omega
    · simp only [List.size_toArray, List.length_append, List.length_take, List.length_drop, hbl]
      simp only [Array.length_toList] at hcl ⊢
      omega
    · rw [key, ← h5, Nat.mul_one]
      have := take_splice (A := cur.toList) (B := Lib.byteCells l) (k := k) (m := m) (by rw [hbl]; omega) (by omega)
      rw [hbl] at this
      exact this
end
end Go.Proofs.Ytcbpeampjhegcaa.sl
