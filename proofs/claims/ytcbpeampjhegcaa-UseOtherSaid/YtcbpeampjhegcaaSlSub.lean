/-
  The small separation logic: a piece of a slice that is read. Nothing here speaks of the program.
-/
import Derived.Test.YtcbpeampjhegcaaSlRow2
namespace Go.Proofs.Ytcbpeampjhegcaa.sl
open Go.RowKit kit
set_option linter.unusedVariables false
def subq (q : Option Addr) (i c sz : Nat) : Option Addr := if c = i then q else q.map (·.add (i * sz))
theorem sliced_sub (q : Option Addr) (i h c sz : Nat) : sliced q i h c sz = .slice (subq q i c sz) (h - i) (c - i) := rfl
theorem sl_sub {H R : List Ent} {sz N c i h : Nat} {q : Option Addr} {α : Type} {f : α → List Value} {xs : List α} (p : Pick (sl sz (.slice q N c) (xs.map f)) H R) (hi : i < h) (hh : h ≤ xs.length) :
    HSub H (sl sz (.slice (subq q i c sz) (h - i) (c - i)) (((xs.take h).drop i).map f) :: H) := fun w hw => by
  have h0 : SliceAt w sz (.slice q N c) (xs.map f) := hw.1 _ p.mem
  have hx : xs ≠ [] := by intro e; rw [e] at hh; simp at hh; omega
  rcases h0 with ⟨h0, _⟩ | ⟨b, off, cap, hv, h2, h3, h4, h5, h6⟩
  · exact absurd (by simpa using h0) hx
  · cases hv
    simp only [List.length_map] at h2
    have hq : subq (some ⟨b, off, none⟩) i c sz = some ⟨b, off + i * sz, none⟩ := by
      unfold subq
      rw [if_neg (by omega)]
      show some (Addr.add _ _) = _
      rw [addr_shift]
    have hl : (((xs.take h).drop i).map f).length = h - i := by simp; omega
    refine HeapOk.shared hw rfl ?_ fun k hk => ⟨_, p.mem, rfl, ⟨by simpa using hx, ?_⟩⟩
    · refine .inr ⟨b, off + i * sz, c - i, by rw [hl, hq], by omega, by omega, by omega, h5, fun j r hr => ?_⟩
      rw [List.map_drop, List.getElem?_drop, List.map_take, List.getElem?_take] at hr
      split at hr
      · obtain ⟨g1, g2⟩ := h6 (i + j) r hr
        refine ⟨g1, fun u x hu => ?_⟩
        have := g2 u x hu
        rwa [show off + (i + j) * sz = off + i * sz + j * sz by rw [Nat.add_mul]; omega] at this
      · cases hr
    · have h9 := hk.2
      rw [hq] at h9
      exact h9
end Go.Proofs.Ytcbpeampjhegcaa.sl
