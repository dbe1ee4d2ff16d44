/-
  '[]byte(s)', stores into it, and the string of it again.
-/
import Derived.Test.YtppnaofebkpbkaaRow
import Derived.Laws.IdiomStrings
namespace Go.Proofs.Ytppnaofebkpbkaa.kit
open Go.RowKit
set_option linter.unusedVariables false

/-- the block g begins with the bytes l, none of them frozen -/
def BRow (w : World) (g : Nat) (e : TypeId) (l : List UInt8) : Prop :=
  ∃ (cs : Array Value) (fr : Nat × Nat), w.heap[g]? = some (.cells cs e fr) ∧ l.length ≤ fr.1 ∧ ∀ (j : Nat) (b : UInt8), l[j]? = some b → cs[j]? = some (Value.int .u8 (b.toNat : Int))

theorem BRow.cell {w : World} {g : Nat} {e : TypeId} {l : List UInt8} (h : BRow w g e l) {j : Nat} {b : UInt8} (hj : l[j]? = some b) : w.cell? ⟨g, j, none⟩ = some (.int .u8 (b.toNat : Int)) := by
  obtain ⟨cs, fr, hg, hf, hc⟩ := h
  rw [cell_of_row w g j cs e fr hg, hc j b hj]
theorem BRow.free {w : World} {g : Nat} {e : TypeId} {l : List UInt8} (h : BRow w g e l) {j : Nat} (hj : j < l.length) : w.frozen? ⟨g, j, none⟩ = false := by
  obtain ⟨cs, fr, hg, hf, hc⟩ := h
  simp [World.frozen?, hg]
  omega
theorem BRow.set {w : World} {g : Nat} {e : TypeId} {l : List UInt8} (h : BRow w g e l) {j : Nat} (b : UInt8) : BRow (w.setCell ⟨g, j, none⟩ (.int .u8 (b.toNat : Int))) g e (l.set j b) := by
  obtain ⟨cs, fr, hg, hf, hc⟩ := h
  refine ⟨cs.setIfInBounds j (.int .u8 (b.toNat : Int)), fr, by rw [setCell_eq_setRow w g j cs e fr _ hg]; exact setRow_heap w g cs _ e _ hg, by simpa using hf, ?_⟩
  intro i c hi
  rw [List.getElem?_set] at hi
  rw [Array.getElem?_setIfInBounds]
  by_cases h1 : j = i
  · subst h1
    simp only [if_true] at hi ⊢
    split at hi
    · rename_i hlt
      have hb : l[j]? = some l[j] := List.getElem?_eq_getElem hlt
      have hcs := hc j _ hb
      obtain ⟨hs, _⟩ := Array.getElem?_eq_some_iff.1 hcs
      rw [if_pos hs, ← Option.some.inj hi]
    · cases hi
  · rw [if_neg h1] at hi ⊢
    exact hc i c hi
theorem BRow.below {w w' : World} {g : Nat} {e : TypeId} {l : List UInt8} (h : BRow w g e l) (hb : Below w.heap.size w w') : BRow w' g e l := by
  obtain ⟨cs, fr, hg, hf, hc⟩ := h
  exact ⟨cs, fr, by rw [hb.block g (Array.getElem?_eq_some_iff.1 hg).1]; exact hg, hf, hc⟩

theorem BRow.back {P : Program} {w : World} {g cap : Nat} {src dst e : TypeId} {l : List UInt8} (h : BRow w g e l) (hs : P.underlying src = some (.slice e)) (he : P.underlying e = some (.int .u8)) (hd : P.underlying dst = some .string) (n : Nat) (hn : n = l.length) :
    (convert src dst (.slice (some ⟨g, 0, none⟩) n cap)).run P w = .ok (.string ⟨l.toArray⟩) w := by
  subst hn
  refine run_convert_bytes_back w src dst e ⟨g, 0, none⟩ cap l hs he hd ?_
  intro j hj
  have hadd : (⟨g, 0, none⟩ : Addr).add j = ⟨g, j, none⟩ := by unfold Addr.add; split <;> simp_all
  rw [hadd, h.cell (List.getElem?_eq_getElem hj)]

/-- '[]byte(s)' in a walk. -/
theorem wpList_bytes {P : Program} {w0 w : World} {ops : Array Oper} {rest : List Oper} {o : Oper} {a : Act} {Q : Exit → Act → World → Prop} (hgd : o.guard = none) (src dst e : TypeId) (x : Operand) (ho : o.op = .convert src dst x)
    (hs : P.underlying src = some .string) (hd : P.underlying dst = some (.slice e)) (he : P.underlying e = some (.int .u8)) (s : ByteArray) (hx : a.eval x = .string s) {B : Nat} (hb : Below B w0 w) (hB : B ≤ w.heap.size)
    (h : ∀ g cap w', BRow w' g e s.data.toList → Below B w0 w' → B ≤ g → g < w'.heap.size → w.heap.size ≤ g → Below w.heap.size w w' → wpList P ops Q rest (a.put o.dst (.slice (some ⟨g, 0, none⟩) s.size cap)) w') : wpList P ops Q (o :: rest) a w := by
  refine wpList_plain hgd fun K hK => ?_
  unfold Oper.wp execOp
  simp only [ho, hx, Sem.run_bind, Sem.run_pure, Result.andThen_ok, run_bytes_of_string w src dst e s hs hd he]
  refine hK _ _ (h _ _ _ ⟨_, _, heap_alloc_new w.drew _, ?_, ?_⟩ (hb.drew.alloc hB _) hB ?_ (Nat.le_refl _) ((Below.refl _ _).drew.alloc (Nat.le_refl _) _))
  · simp [bytesRow]
  · intro j b hj
    have hlt : j < s.data.size := by
      have := (List.getElem?_eq_some_iff.1 hj).1
      simpa using this
    rw [bytesRow_at s _ j hlt]
    have e : s.data.toList[j]? = some s.data[j] := by simp
    rw [e] at hj
    rw [Option.some.inj hj]
  · simp
end Go.Proofs.Ytppnaofebkpbkaa.kit
