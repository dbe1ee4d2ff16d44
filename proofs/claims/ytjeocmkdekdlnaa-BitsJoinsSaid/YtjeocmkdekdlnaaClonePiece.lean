/-
  slices.Clone of pieces.
-/
import Derived.Test.YtjeocmkdekdlnaaRows
import Derived.Test.YtjeocmkdekdlnaaConcatPiece
import Derived.Lib.SliceRun
namespace Go.Proofs.Ytjeocmkdekdlnaa.clonepiece
open Go.RowKit kit Go.Proofs.Ytjeocmkdekdlnaa.concatpiece
set_option linter.unusedVariables false

set_option maxRecDepth 100000 in
theorem clone_any (v : Value) (xs : List (Int × Int)) (W : World) (hs : SliceAt W 2 v (xs.map rowE)) (hn : xs.length * 16 ≤ 140737488355328) :
    Calls Try.prog 33 #[v] W fun e w' => ∃ v', e = .returned v' ∧ w'.ownsRow W.heap.size 60 2 v' xs.length (flat rowE xs) ∧ Below W.heap.size W w' := by
  have qn : ∀ (w : World) (a : Option Addr) (n c n' c' : Nat), (binOp .eql 55 (.slice a n c) (.slice none n' c')).run Try.prog w = .ok (.bool a.isNone) w := fun w a n c n' c' => Lib.run_eql_slice_nil w _ _ a n c n' c' Try.underlying55
  have hs0 := hs
  obtain ⟨q, cap, b, off, rfl, hq, _⟩ := hs.view
  simp only [List.length_map] at hq hs0 ⊢
  clear hs
  cases q with
  | none =>
    have h0 : xs.length = 0 := by
      rcases Nat.eq_zero_or_pos xs.length with h | h
      · exact h
      · have := (hq 0 h).1; cases this
    have h1 : xs = [] := List.eq_nil_of_length_eq_zero h0
    subst h1
    clear hq
    go_enter Try.func33, Try.ntmps33
    go_wp2_with (fail)
    go_ret
    exact ⟨_, rfl, World.ownsRow_nil _ _ _ _, Below.refl _ _⟩
  | some ad =>
    clear hq
    have hs1 : SliceAt (W.alloc (.cells #[] 60)) 2 (.slice (some ad) xs.length cap) (xs.map rowE) := hs0.below (Nat.le_refl _) ((Below.refl _ _).alloc (Nat.le_refl _) _)
    have hb1 : Below W.heap.size W (W.alloc (.cells #[] 60)) := (Below.refl _ _).alloc (Nat.le_refl _) _
    have hown : (W.alloc (.cells #[] 60)).ownsRow W.heap.size 60 2 (.slice (some ⟨W.heap.size, 0, none⟩) 0 0) 0 [] := World.ownsRow_made W #[] 0 (Nat.le_refl _) (Nat.zero_le _) rfl
    go_enter Try.func33, Try.ntmps33
    go_wp2_with (at_builtin; refine appS tE rfl (.tmp 5) (.tmp 6) rfl rowE rowE_len rowE_one _ _ 0 [] xs rfl rfl hown hs1 ?c1 ?c2 hb1 ?c3 ?_)
    case c1 => omega
    case c2 => unfold maxLen; omega
    case c3 => simp
    intro v' w1 hown1 _ hb2 _
    clear hown hs1 hb1
    go_wp2_with (fail)
    go_ret
    exact ⟨v', rfl, by simpa using hown1, hb2⟩
end Go.Proofs.Ytjeocmkdekdlnaa.clonepiece
