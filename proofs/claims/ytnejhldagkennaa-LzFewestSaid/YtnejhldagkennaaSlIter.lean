/-
  The small separation logic: a range over a string, scopes, a rune as a string. Nothing here speaks of the program.
-/
import Derived.Test.YtnejhldagkennaaSlCallV
import Derived.Laws.RangeAny
import Derived.Laws.Runes
import Derived.Scope
namespace Go.Proofs.Ytnejhldagkennaa.sl
open Go.RowKit kit
set_option linter.unusedVariables false
/-- block b is an iterator of the string l that stands at pos -/
def iter (b : Nat) (l : List UInt8) (pos : Nat) : Ent where
  excl := true
  foot j := j = b
  holds w := w.heap[b]? = some (.stringIter (str l) pos)
  lt h hk := by
    subst hk
    exact (Array.getElem?_eq_some_iff.1 h).1
  keep h _ _ _ _ hb := by rw [hb b rfl]; exact h
/-- the rune at a place, and how many bytes it has -/
def runeAt (l : List UInt8) (pos : Nat) : Nat := (Utf8.decode (str l) pos).1
def wideAt (l : List UInt8) (pos : Nat) : Nat := (Utf8.decode (str l) pos).2
section
variable {P : Program} {Q : Post} {n : Nat} {F : Frm} {H R : List Ent} {o : Oper} {x y z : Operand} {v u z' : Value} {T S : TypeId}
theorem opr_range {l : List UInt8} [ht : Strg P T] (ho : o.op = .range T x) (hx : ev F x = some (.string (str l))) : Opr P n o F H fun u H' => ∃ b, u = bptr b 0 ∧ H' = iter b l 0 :: H := fun Q a w next ha hw hn => by
  unfold Oper.wp
  simp only [execOp, ho, ha.eval hx, run_range_string w T (str l) ht.h, Sem.run_bind, Sem.run_pure, Result.andThen_ok, Oper.upon]
  refine hn _ _ _ ⟨w.heap.size, rfl, rfl⟩ (HeapOk.new hw (moved_alloc w _) ?_ fun j hj => ?_)
  · exact World.iter_heap w (str l) 0
  · have : j = w.heap.size := hj
    omega
theorem opr_next {b pos : Nat} {l : List UInt8} (ho : o.op = .next x true) (hx : ev F x = some (bptr b 0)) (p : Pick (iter b l pos) H R) (h : pos < l.length) : Opr P n o F H fun u H' => u = .tuple #[.bool true, .int .i64 (pos : Int), .int .i32 (runeAt l pos : Int)] ∧ H' = iter b l (pos + wideAt l pos) :: R := fun Q a w next ha hw hn => by
  have hw' := hw.perm p.perm
  have hb : w.heap[b]? = some (.stringIter (str l) pos) := hw'.head
  have hs : pos < (str l).size := by rw [str_size]; exact h
  have hlt := (Array.getElem?_eq_some_iff.1 hb).1
  have hr : (Instr.next (bptr b 0) true o.type).run P w = .ok (.tuple #[.bool true, .int .i64 (pos : Int), .int .i32 (runeAt l pos : Int)]) { w with heap := w.heap.setIfInBounds b (.stringIter (str l) (pos + wideAt l pos)) } := by
    simp only [Instr.next, bptr, getObj, setObj, Sem.run_bind, Sem.run, hb, Result.andThen, hs, if_true]
    simp [goInt, runeAt, wideAt]
  unfold Oper.wp
  simp only [execOp, ho, ha.eval hx, hr, Sem.run_bind, Sem.run_pure, Result.andThen_ok, Oper.upon]
  refine hn _ _ _ ⟨rfl, rfl⟩ (HeapOk.upd hw' rfl ⟨rfl, rfl, rfl, by simp, fun j _ hne => ?_⟩ ?_ fun j hj => .inl hj)
  · have hne' : ¬ b = j := fun e => hne (show j = b from e.symm)
    simp [hne']
  · show (w.heap.setIfInBounds b _)[b]? = _
    simp [hlt]
theorem opr_next_end {b pos : Nat} {l : List UInt8} (ho : o.op = .next x true) (hx : ev F x = some (bptr b 0)) (p : Pick (iter b l pos) H R) (h : l.length ≤ pos) : Opr P n o F H fun u H' => u = .tuple #[.bool false] ∧ H' = H := fun Q a w next ha hw hn => by
  have hb : w.heap[b]? = some (.stringIter (str l) pos) := hw.1 _ p.mem
  have hs : ¬ pos < (str l).size := by rw [str_size]; omega
  have hr : (Instr.next (bptr b 0) true o.type).run P w = .ok (.tuple #[.bool false]) w := by
    simp [Instr.next, bptr, getObj, Sem.run, hb, hs]
  unfold Oper.wp
  simp only [execOp, ho, ha.eval hx, hr, Sem.run_bind, Sem.run_pure, Result.andThen_ok, Oper.upon]
  exact hn _ _ _ ⟨rfl, rfl⟩ hw
theorem q_runestr {k : IntKind} {i : Int} [hs : Knd P S] [hd : Strg P T] (ho : o.op = .convert S T x) (hx : ev F x = some (.int k i)) : Qt P n o F H (.string (Utf8.encode i)) := fun a w ha _ => by
  have h1 := run_convert_int_string (P := P) w S T k i hs.h hd.h
  simp only [execOp, ho, ha.eval hx, h1, Sem.run_bind, Result.andThen_ok, Sem.run_pure]
theorem cod_scope {c : Code} (h : Cod P (Exit.noGoto Q) n c F H) : Cod P Q n (.scope c) F H := fun a w ha hw => wp_scope_straight (h a w ha hw)
theorem pst_scope (h : Pst Q .normal n F H) : Pst (Exit.noGoto Q) .normal n F H := h
theorem pst_scope_ret (h : Pst Q .ret n F H) : Pst (Exit.noGoto Q) .ret n F H := h
theorem pst_scope_exit {id : Nat} (h : Pst Q (.exit id) n F H) : Pst (Exit.noGoto Q) (.exit id) n F H := h
theorem cod_label {l : Nat} (h : Pst Q .normal n F H) : Cod P Q n (.label l) F H := fun a w ha hw => wp_label (h a w ha hw)
end
theorem dec_facts (s : ByteArray) (i : Nat) (h : i < s.size) :
    1 ≤ (Utf8.decode s i).2 ∧ i + (Utf8.decode s i).2 ≤ s.size ∧ ((Utf8.decode s i).1 < 128 → (Utf8.decode s i).2 = 1 ∧ (s.get! (i + 0)).toNat = (Utf8.decode s i).1) ∧ (128 ≤ (Utf8.decode s i).1 → ∀ k, k < (Utf8.decode s i).2 → 128 ≤ (s.get! (i + k)).toNat) ∧ ((Utf8.decode s i).1 < 128 ∨ (Utf8.decode s i).1 = 65533 ∨ Utf8.valid (Utf8.decode s i).1 = true) := by
  simp only [Utf8.decode, Utf8.runeError]
  split
  · exact ⟨Nat.le_refl _, by simp; omega, fun _ => ⟨rfl, rfl⟩, fun h => by dsimp only at h; omega, .inl (by assumption)⟩
  · have hb0 : 128 ≤ (s.get! (i + 0)).toNat := by omega
    have one : 1 ≤ (65533, 1).2 ∧ i + (65533, 1).2 ≤ s.size ∧ ((65533, 1).1 < 128 → (65533, 1).2 = 1 ∧ (s.get! (i + 0)).toNat = (65533, 1).1) ∧ (128 ≤ (65533, 1).1 → ∀ k, k < (65533, 1).2 → 128 ≤ (s.get! (i + k)).toNat) ∧ ((65533, 1).1 < 128 ∨ (65533, 1).1 = 65533 ∨ Utf8.valid (((65533, 1).1 : Nat) : Int) = true) :=
      ⟨by decide, by simp; omega, fun h => absurd h (by decide), fun _ k hk => by
        have : k = 0 := by dsimp only at hk; omega
        subst this
        exact hb0, .inr (.inl rfl)⟩
    split
    · rename_i hc
      simp only [Bool.and_eq_true, beq_iff_eq, decide_eq_true_eq] at hc
      split
      · refine ⟨by simp, by simp; omega, fun h => by dsimp only at h; omega, fun _ k hk => ?_, .inr (.inr ?_)⟩
        · dsimp only at hk
          rcases Nat.lt_or_ge k 1 with hk1 | hk1
          · have : k = 0 := by omega
            subst this; omega
          · have : k = 1 := by omega
            subst this; omega
        · unfold Utf8.valid
          simp
          omega
      · exact one
    · split
      · rename_i hc
        simp only [Bool.and_eq_true, beq_iff_eq, decide_eq_true_eq] at hc
        split
        · rename_i hv
          simp only [Bool.and_eq_true, decide_eq_true_eq] at hv
          refine ⟨by simp, by simp; omega, fun h => by dsimp only at h; omega, fun _ k hk => ?_, .inr (.inr ?_)⟩
          · dsimp only at hk
            rcases Nat.lt_or_ge k 1 with hk1 | hk1
            · have : k = 0 := by omega
              subst this; omega
            · rcases Nat.lt_or_ge k 2 with hk2 | hk2
              · have : k = 1 := by omega
                subst this; omega
              · have : k = 2 := by omega
                subst this; omega
          · exact hv.2
        · exact one
      · split
        · rename_i hc
          simp only [Bool.and_eq_true, beq_iff_eq, decide_eq_true_eq] at hc
          split
          · rename_i hv
            simp only [Bool.and_eq_true, decide_eq_true_eq] at hv
            refine ⟨by simp, by simp; omega, fun h => by dsimp only at h; omega, fun _ k hk => ?_, .inr (.inr ?_)⟩
            · dsimp only at hk
              rcases Nat.lt_or_ge k 1 with hk1 | hk1
              · have : k = 0 := by omega
                subst this; omega
              · rcases Nat.lt_or_ge k 2 with hk2 | hk2
                · have : k = 1 := by omega
                  subst this; omega
                · rcases Nat.lt_or_ge k 3 with hk3 | hk3
                  · have : k = 2 := by omega
                    subst this; omega
                  · have : k = 3 := by omega
                    subst this; omega
            · exact hv.2
          · exact one
        · exact one
theorem str_get! (l : List UInt8) (i : Nat) : (str l).get! i = l.getD i 0 := by
  show (ByteArray.mk l.toArray).get! i = _
  unfold ByteArray.get!
  simp [List.getD_eq_getElem?_getD]
  rfl
/-- the same over lists -/
theorem rune_facts {l : List UInt8} {i : Nat} (h : i < l.length) :
    1 ≤ wideAt l i ∧ i + wideAt l i ≤ l.length ∧ (runeAt l i < 128 → wideAt l i = 1 ∧ (l.getD i 0).toNat = runeAt l i) ∧ (128 ≤ runeAt l i → ∀ k, k < wideAt l i → 128 ≤ (l.getD (i + k) 0).toNat) ∧ (runeAt l i < 128 ∨ runeAt l i = 65533 ∨ Utf8.valid (runeAt l i) = true) := by
  have hd := dec_facts (str l) i (by rw [str_size]; exact h)
  rw [str_size] at hd
  simp only [str_get!, Nat.add_zero] at hd
  exact hd
theorem rune_le (l : List UInt8) (i : Nat) : runeAt l i ≤ 2147483647 := decode_le (str l) i
end Go.Proofs.Ytnejhldagkennaa.sl
