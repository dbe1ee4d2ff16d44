/-
  slices.Concat of ints: its contract.
-/
import Derived.Test.YtppnaofebkpbkaaTypes
import Derived.Test.YtppnaofebkpbkaaConcatInt
namespace Go.Proofs.Ytppnaofebkpbkaa.ints
open Go.RowKit kit sl
set_option linter.unusedVariables false
theorem concat_ct (q : Option Addr) (E : TypeId) (a b : Value) (xs ys : List Int) (hn : (xs.length + ys.length) * 8 ≤ 281474976710656) :
    Ct Try.prog 34 [.slice q 2 2] [own (.slice q 2 2) E 1 2 [a, b], sl 1 a (xs.map fI), sl 1 b (ys.map fI)] fun v H' => ∃ q' c', v = .slice q' (xs ++ ys).length c' ∧ H' = [own (.slice q' (xs ++ ys).length c') 3 1 (xs ++ ys).length (flat fI (xs ++ ys))] := ⟨fun Fr w hw => by
  have h0 : w.ownsRow 0 E 1 (.slice q 2 2) 2 [a, b] := hw.1 (own (.slice q 2 2) E 1 2 [a, b]) (by simp)
  have ha : SliceAt w 1 a (xs.map fI) := hw.1 (sl 1 a (xs.map fI)) (by simp)
  have hb : SliceAt w 1 b (ys.map fI) := hw.1 (sl 1 b (ys.map fI)) (by simp)
  obtain ⟨g, c, e1, c1⟩ := own_elem h0 (i := 0) (j := 0) (u := a) rfl
  obtain ⟨g2, c2, e2, c3⟩ := own_elem h0 (i := 1) (j := 0) (u := b) rfl
  cases e1
  cases e2
  have hg : g < w.heap.size := by
    obtain ⟨_, _, _, _, h3, _⟩ := own_block h0 (k := g) rfl
    exact heap_lt h3
  refine (concatint.concat_any g a b xs ys w ha hb hg c1 c3 hn).mono ?_
  rintro e w' ⟨v, rfl, hown, hbl⟩
  rw [← List.length_append] at hown
  obtain ⟨q', c', rfl⟩ := own_value hown
  refine ⟨_, _, rfl, ⟨q', c', rfl, rfl⟩, ?_⟩
  refine HeapOk.new (hw.sub (List.sublist_append_right _ _)) ⟨hbl.os, hbl.tape, hbl.output, hbl.size, fun b hb' _ => hbl.block b hb'⟩ ?_ fun k hk => ?_
  · exact ⟨hown.1, hown.2.imp id fun ⟨g, cap, cur, e, hB, r⟩ => ⟨g, cap, cur, e, Nat.zero_le _, r⟩⟩
  · obtain ⟨_, _, _, h4, _⟩ := own_block hown hk
    exact h4⟩
end Go.Proofs.Ytppnaofebkpbkaa.ints
