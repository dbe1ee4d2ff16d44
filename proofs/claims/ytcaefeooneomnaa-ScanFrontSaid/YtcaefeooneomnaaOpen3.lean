/-
  How a struct is read of which one field is a struct.
-/
import Derived.Test.YtcaefeooneomnaaOpen2
namespace Go.Proofs.Ytcaefeooneomnaa.kit
open Go.RowKit
set_option linter.unusedVariables false
def nestOk (P : Program) (f0 f1 g0 g1 : Field) : Bool :=
  f0.offset == 0 && P.cellsOf f0.type == 1 && f1.offset == 1 && P.cellsOf f1.type == 2 && g0.offset == 0 && P.cellsOf g0.type == 1 && g1.offset == 1 && P.cellsOf g1.type == 1
theorem open_nest {H : Type} {enc : TypeId × Value → H} {P : Program} {w : World} {base : Nat} {spare : Nat → Bool} {held : Bool} {r : Reach} {b0 : Nat} {t : TypeId} {f0 f1 g0 g1 : Field} {v : Value} {d : DataW H} {p : List MemPlace} (hs : P.underlying t = some (.struct #[f0, f1])) (hu : P.underlying f1.type = some (.struct #[g0, g1])) (hn : nestOk P f0 f1 g0 g1 = true) (hC : P.cellsOf t = 3)
    (hv : Value.okWide P w r b0 t v) (h : DataW.Trod enc P w base spare held t v d p) :
    ∃ (v0 v1 v2 : Value) (y0 z0 z1 : DataW H × List MemPlace) (n m : Nat), v = .agg #[v0, v1, v2] ∧ d = .agg [y0.1, .agg [z0.1, z1.1]] ∧ p = y0.2 ++ (z0.2 ++ z1.2) ∧
      DataW.trod enc P w base spare held n f0.type [v0] = some y0 ∧ DataW.trod enc P w base spare held m g0.type [v1] = some z0 ∧ DataW.trod enc P w base spare held m g1.type [v2] = some z1 := by
  obtain ⟨cs, rfl, hsz⟩ := Go.WideShapes.okWide_struct hs hv
  obtain ⟨c0, c1, c2, rfl⟩ := Go.Joins.array3 (hsz.trans hC)
  obtain ⟨fuel, hf⟩ := h
  simp only [nestOk, Bool.and_eq_true, beq_iff_eq] at hn
  obtain ⟨⟨⟨⟨⟨⟨⟨n1, n2⟩, n3⟩, n4⟩, n5⟩, n6⟩, n7⟩, n8⟩ := hn
  obtain ⟨y0, y1, n, hx, _, h0, h1⟩ := Go.ChangeShapes.trod_struct2 hs hf
  rw [n1, n2] at h0
  rw [n3, n4] at h1
  simp only [Prod.mk.injEq] at hx
  have h0' : DataW.trod enc P w base spare held n f0.type [c0] = some y0 := h0
  have h1' : DataW.trod enc P w base spare held n f1.type [c1, c2] = some y1 := h1
  obtain ⟨z0, z1, m, hy, _, k0, k1⟩ := Go.ChangeShapes.trod_struct2 hu h1'
  rw [n5, n6] at k0
  rw [n7, n8] at k1
  subst hy
  exact ⟨c0, c1, c2, y0, z0, z1, n, m, rfl, hx.1, hx.2, h0', k0, k1⟩
end Go.Proofs.Ytcaefeooneomnaa.kit
