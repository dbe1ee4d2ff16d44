/-
  code.Read: the walk.
-/
import Derived.Test.YtppnaofebkpbkaaBookOne
namespace Go.Proofs.Ytppnaofebkpbkaa.code
open Go.RowKit kit sl lens
set_option linter.unusedVariables false
attribute [local irreducible] bkC
theorem idx_cnt (l : List Int) (w : Nat) : ∀ k, k ≤ l.length → (idx l w k).length = cnt (l.take k) w := by
  intro k
  induction k with
  | zero => intro _; rfl
  | succ k ih =>
    intro hk
    obtain ⟨x, hx⟩ : ∃ x, l[k]? = some x := ⟨_, List.getElem?_eq_getElem (by omega)⟩
    rw [idx_next hx, cnt_next hx]
    split
    · rw [List.length_append, List.length_singleton, ih (by omega)]
    · rw [ih (by omega), Nat.add_zero]
theorem sgs_mono (l : List Int) (a : Nat) : ∀ b, a ≤ b → (sgs l a).length ≤ (sgs l b).length := by
  intro b h
  induction b with
  | zero => rw [show a = 0 by omega]; exact Nat.le_refl _
  | succ b ih =>
    rcases Nat.lt_or_ge a (b + 1) with h1 | h1
    · have := ih (by omega)
      rw [sgs, List.length_append]
      omega
    · rw [show a = b + 1 by omega]; exact Nat.le_refl _
theorem book_A {l : List Int} (hl : l.length ≤ 320) : ∀ v, v < 16 → 0 ≤ fA l 16 v ∧ fA l 16 v ≤ 100000000 := by
  intro v hv
  have := nxt_bd l hl v (by omega)
  unfold fA
  rw [if_pos hv]
  omega
theorem book_C {l : List Int} (hl : l.length ≤ 320) : ∀ v, v < 16 → 0 ≤ fC l v ∧ fC l v ≤ 100000000 := by
  intro v hv
  have := fC_le l v
  omega
theorem book_R (l : List Int) : ∀ v, v < 16 → 0 ≤ fR l 16 v ∧ fR l 16 v + fC l v ≤ ((sgs l 15).length : Int) := by
  intro v hv
  unfold fR fC
  rw [if_pos hv]
  cases v with
  | zero => rw [if_pos rfl]; exact ⟨Int.le_refl _, by show (0 : Int) + 0 ≤ _; omega⟩
  | succ v =>
    have h1 := sgs_mono l (v + 1) 15 (by omega)
    have h2 := idx_cnt l (v + 1) l.length (Nat.le_refl _)
    rw [List.take_length] at h2
    have h3 : (sgs l (v + 1)).length = (sgs l v).length + cnt l (v + 1) := by rw [sgs, List.length_append, h2]
    rw [if_neg (by omega), Nat.add_sub_cancel]
    omega
/-- one sign from a place on -/
def one (l : List Int) (s : List UInt8) (k : Nat) : Int × Nat × Int := oneF (fA l 16) (fR l 16) (fC l) (sgs l 15) s 16 0 0 k
theorem oneF_at {A R C : Nat → Int} {sg : List Int} {s : List UInt8} : ∀ (f w c k : Nat), k ≤ 8 * s.length → (oneF A R C sg s f w c k).2.2 = 0 → k ≤ (oneF A R C sg s f w c k).2.1 ∧ (oneF A R C sg s f w c k).2.1 ≤ 8 * s.length := by
  intro f
  induction f with
  | zero => intro w c k _ h; simp [oneF] at h
  | succ f ih =>
    intro w c k hk h
    rw [oneF] at h ⊢
    split
    · exact ⟨Nat.le_refl _, hk⟩
    · rename_i h1
      rw [if_neg h1] at h
      split
      · rename_i h2
        rw [if_pos h2] at h
        simp at h
      · rename_i h2
        rw [if_neg h2] at h
        split
        · rename_i h3
          rw [if_pos h3] at h
          simp at h
        · rename_i h3
          rw [if_neg h3] at h
          have := ih _ _ _ (by omega) h
          omega
/-- n signs -/
def readF (l : List Int) (s : List UInt8) : Nat → Nat → List Int → List Int × Nat × Int
  | 0, k, out => (out, k, 0)
  | n + 1, k, out => if (one l s k).2.2 = 0 then readF l s n (one l s k).2.1 (out ++ [(one l s k).1]) else ([], 0, (one l s k).2.2)
def readV (l : List Int) (s : List UInt8) (k n : Nat) : List Int × Nat × Int := if canonE l = 0 then readF l s n k [] else ([], 0, (canonE l : Int))
theorem canon_good {l : List Int} (h : canonE l = 0) : l.length ≤ 320 ∧ ∀ x ∈ l, 0 ≤ x ∧ x ≤ 15 := by
  have h1 : lensE l = 0 := by
    unfold canonE at h
    split at h
    · rename_i h9; exact absurd h h9
    · rename_i h9; exact Decidable.not_not.1 h9
  unfold lensE at h1
  split at h1
  · cases h1
  · rename_i h2
    split at h1
    · cases h1
    · rename_i h3
      exact ⟨by omega, fun x hx => badX_mem (by simpa using h3) hx⟩
theorem ct_mono {P : Program} {f : FuncId} {args : List Value} {H : List Ent} {R R' : Value → List Ent → Prop} (h : Ct P f args H R) (k : ∀ v H', R v H' → R' v H') : Ct P f args H R' := ⟨fun Fr w hw => (h.go Fr w hw).mono fun e w' ⟨v, H', h1, h2, h3⟩ => ⟨v, H', h1, k v H' h2, h3⟩⟩
attribute [local irreducible] box own sl old bptr eptr Qt Opr Run Cod Pst Drn
end Go.Proofs.Ytppnaofebkpbkaa.code
