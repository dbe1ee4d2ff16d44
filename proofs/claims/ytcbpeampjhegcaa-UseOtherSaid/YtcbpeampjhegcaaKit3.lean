/-
  One element appended, the new value's shape shown.
-/
import Derived.Test.YtcbpeampjhegcaaKit2
import Derived.Deep.RegionLaw
namespace Go.Proofs.Ytcbpeampjhegcaa.kit
open Go.RowKit

theorem own_shape {w : World} {B e : Nat} {v : Value} {n : Nat} {xs : List Value} (h : w.ownsRow B e 1 v (n + 1) xs) : ∃ g cap, v = .slice (some ⟨g, 0, none⟩) (n + 1) cap ∧ B ≤ g ∧ g < w.heap.size := by
  rcases h.2 with ⟨_, h0⟩ | ⟨g, cap, cur, rfl, hb, hg, _⟩
  · omega
  · exact ⟨g, cap, rfl, hb, (Array.getElem?_eq_some_iff.1 hg).1⟩

/-- One element appended inside a region that draws its order. -/
theorem step_app1s {P : Program} {w0 w : World} {B : Nat} {t e : TypeId} {bytes : Nat} {z : Value} (hT : SliceTy P t e 1 bytes z) {ops : Array Oper} {o : Oper} {a : Act} {K : Act → World → Prop} {Q : Exit → Act → World → Prop} {E : Prop} (hgd : o.guard = none) (s x : Operand)
    (ho : o.op = .call { callee := .builtin .append, args := #[s, x], argTypes := #[t, t] })
    (v u : Value) (n : Nat) (xs : List Value) (hs : a.eval s = v) (ad : Addr) (hx : a.eval x = .slice (some ad) 1 1) (hcell : w.cell? ad = some u)
    (hown : w.ownsRow B e 1 v n xs) (hu : u.oneCell' = true)
    (hbytes : (n + 1) * bytes ≤ 140737488355328) (h63 : n + 1 ≤ maxLen) (hb : Below B w0 w) (hB : B ≤ w.heap.size)
    (h : ∀ g cap w', w'.ownsRow B e 1 (.slice (some ⟨g, 0, none⟩) (n + 1) cap) (n + 1) (xs ++ [u]) → w.grownBy w' v.ownBlock → Below B w0 w' → B ≤ g → g < w'.heap.size → K (a.put o.dst (.slice (some ⟨g, 0, none⟩) (n + 1) cap)) w') :
    if Region.wanted o (yielded ops a.tmps) = true then Oper.wp P o a w K Q else E :=
  step_app1 hT hgd s x ho v u n xs hs ad hx hcell hown hu hbytes h63 hb hB fun v' w' h1 h2 h3 _ => by
    obtain ⟨g, cap, rfl, h5, h6⟩ := own_shape h1
    exact h g cap w' h1 h2 h3 h5 h6

theorem app1s {P : Program} {w0 w : World} {B : Nat} {t e : TypeId} {bytes : Nat} {z : Value} (hT : SliceTy P t e 1 bytes z) {ops : Array Oper} {rest : List Oper} {o : Oper} {a : Act} {Q : Exit → Act → World → Prop} (hgd : o.guard = none) (s x : Operand)
    (ho : o.op = .call { callee := .builtin .append, args := #[s, x], argTypes := #[t, t] })
    (v u : Value) (n : Nat) (xs : List Value) (hs : a.eval s = v) (hx : a.eval x = .slice (some ⟨w.heap.size, 0, none⟩) 1 1)
    (hown : w.ownsRow B e 1 v n xs) (hu : u.oneCell' = true)
    (hbytes : (n + 1) * bytes ≤ 140737488355328) (h63 : n + 1 ≤ maxLen) (hb : Below B w0 w) (hB : B ≤ w.heap.size)
    (h : ∀ g cap w', w'.ownsRow B e 1 (.slice (some ⟨g, 0, none⟩) (n + 1) cap) (n + 1) (xs ++ [u]) → w.grownBy w' v.ownBlock → Below B w0 w' → B ≤ g → g < w'.heap.size → wpList P ops Q rest (a.put o.dst (.slice (some ⟨g, 0, none⟩) (n + 1) cap)) w') :
    wpList P ops Q (o :: rest) a (w.alloc (.cells #[u] e)) :=
  app1 hT hgd s x ho v u n xs hs hx hown hu hbytes h63 hb hB fun v' w' h1 h2 h3 _ => by
    obtain ⟨g, cap, rfl, h5, h6⟩ := own_shape h1
    exact h g cap w' h1 h2 h3 h5 h6
end Go.Proofs.Ytcbpeampjhegcaa.kit
