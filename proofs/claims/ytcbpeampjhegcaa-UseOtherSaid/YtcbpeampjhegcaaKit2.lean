/-
  More small lemmas for the walks: contracts met behind other calls.
-/
import Derived.Test.YtcbpeampjhegcaaKit
import Derived.StillTailTactics
import Derived.Deep.RegionHeld3
import Derived.Deep.AppendLies
namespace Go.Proofs.Ytcbpeampjhegcaa.kit
open Go.RowKit

/-- A callee that only makes new blocks, met in a world that is as the first one was, but for new blocks. -/
theorem from_below {P : Program} {f : FuncId} {args : Array Value} {w0 w : World} {v : Ending}
    (h : Calls P f args w fun e w' => e = v ∧ Below w.heap.size w w') (hb : Below w0.heap.size w0 w) : Calls P f args w fun e w' => e = v ∧ Below w0.heap.size w0 w' :=
  h.mono fun _ _ ⟨he, hw⟩ => ⟨he, hb.trans (hw.mono hb.size)⟩
theorem ite_min_nat (x y : Nat) : (if y < x then (y : Int) else (x : Int)) = ((min x y : Nat) : Int) := by omega
theorem ite_max_nat (x y : Nat) : (if x < y then (y : Int) else (x : Int)) = ((max x y : Nat) : Int) := by omega

/-- One element appended inside a region that draws its order. -/
theorem step_app1 {P : Program} {w0 w : World} {B : Nat} {t e : TypeId} {bytes : Nat} {z : Value} (hT : SliceTy P t e 1 bytes z) {ops : Array Oper} {o : Oper} {a : Act} {K : Act → World → Prop} {Q : Exit → Act → World → Prop} {E : Prop} (hgd : o.guard = none) (s x : Operand)
    (ho : o.op = .call { callee := .builtin .append, args := #[s, x], argTypes := #[t, t] })
    (v u : Value) (n : Nat) (xs : List Value) (hs : a.eval s = v) (ad : Addr) (hx : a.eval x = .slice (some ad) 1 1) (hcell : w.cell? ad = some u)
    (hown : w.ownsRow B e 1 v n xs) (hu : u.oneCell' = true)
    (hbytes : (n + 1) * bytes ≤ 140737488355328) (h63 : n + 1 ≤ maxLen) (hb : Below B w0 w) (hB : B ≤ w.heap.size)
    (h : ∀ v' w', w'.ownsRow B e 1 v' (n + 1) (xs ++ [u]) → w.grownBy w' v.ownBlock → Below B w0 w' → B ≤ w'.heap.size → K (a.put o.dst v') w') :
    if Region.wanted o (yielded ops a.tmps) = true then Oper.wp P o a w K Q else E := by
  have hw : Region.wanted o (yielded ops a.tmps) = true := by simp [Region.wanted, hgd]
  rw [if_pos hw]
  obtain ⟨h1, h2, h3, i, hi1, hi2, hi3, hi4⟩ := hT
  refine wp_append_own w s x t ho B e i z 1 bytes h1 hi1 hi2 hi3 hi4 h2 h3 v n xs hs hown ad 1 1 [u] hx (by simp) ?_ (by simpa using hu) h63 hbytes hB ?_
  · intro j y hj
    match j, hj with
    | 0, hj => simp at hj; subst hj; simpa [Addr.add] using hcell
  · intro v' w' ho' hg _
    exact h v' w' ho' hg (hb.grown hg hB (fun k hk => (hown.lt k hk).1)) (Nat.le_trans hB hg.size)
end Go.Proofs.Ytcbpeampjhegcaa.kit
