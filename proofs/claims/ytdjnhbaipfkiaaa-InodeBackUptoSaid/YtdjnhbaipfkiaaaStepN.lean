/-
  One element of several cells appended inside a region that draws its order. Nothing here speaks of the program.
-/
import Derived.Test.YtdjnhbaipfkiaaaAppS
import Derived.Deep.RegionLaw
namespace Go.Proofs.Ytdjnhbaipfkiaaa.kit
open Go.RowKit
set_option linter.unusedVariables false

theorem step_appN {P : Program} {w0 w : World} {B : Nat} {t e : TypeId} {sz bytes : Nat} {z : Value} (hT : SliceTy P t e sz bytes z) {ops : Array Oper} {o : Oper} {a : Act} {K : Act → World → Prop} {Q : Exit → Act → World → Prop} {E : Prop} (hgd : o.guard = none) (s x : Operand)
    (ho : o.op = .call { callee := .builtin .append, args := #[s, x], argTypes := #[t, t] })
    (v : Value) (us : List Value) (n : Nat) (xs : List Value) (hs : a.eval s = v) (bl : Nat) (hx : a.eval x = .slice (some ⟨bl, 0, none⟩) 1 1) (hcell : w.heap[bl]? = some (.cells us.toArray e (0, 0)))
    (hown : w.ownsRow B e sz v n xs) (hul : us.length = sz) (hu : ∀ u ∈ us, u.oneCell' = true)
    (hbytes : (n + 1) * bytes ≤ 140737488355328) (h63 : n + 1 ≤ maxLen) (hb : Below B w0 w) (hB : B ≤ w.heap.size)
    (h : ∀ g cap w', w'.ownsRow B e sz (.slice (some ⟨g, 0, none⟩) (n + 1) cap) (n + 1) (xs ++ us) → w.grownBy w' v.ownBlock → Below B w0 w' → B ≤ w'.heap.size → K (a.put o.dst (.slice (some ⟨g, 0, none⟩) (n + 1) cap)) w') :
    if Region.wanted o (yielded ops a.tmps) = true then Oper.wp P o a w K Q else E := by
  have hw : Region.wanted o (yielded ops a.tmps) = true := by simp [Region.wanted, hgd]
  rw [if_pos hw]
  obtain ⟨h1, h2, h3, i, hi1, hi2, hi3, hi4⟩ := hT
  refine wp_append_own w s x t ho B e i z sz bytes h1 hi1 hi2 hi3 hi4 h2 h3 v n xs hs hown ⟨bl, 0, none⟩ 1 1 us hx (by simp [hul]) ?_ hu h63 hbytes hB ?_
  · intro j y hj
    have ea : (⟨bl, 0, none⟩ : Addr).add j = ⟨bl, j, none⟩ := by unfold Addr.add; split <;> simp_all
    rw [ea, cell_of_row _ _ _ _ _ _ hcell]
    simpa using hj
  · intro v' w' ho' hg _
    obtain ⟨q, cap, rfl, hq⟩ := own_lenN ho'
    rcases hq with rfl | ⟨g, rfl⟩
    · rcases ho'.2 with ⟨_, h0⟩ | ⟨g, cap, cur, hv, _⟩
      · omega
      · simp at hv
    · exact h g cap w' ho' hg (hb.grown hg hB (fun k hk => (hown.lt k hk).1)) (Nat.le_trans hB hg.size)
end Go.Proofs.Ytdjnhbaipfkiaaa.kit
