/-
  Results of which one is a struct in a cell; the cells of an own row of several cells an element. Nothing here speaks of the program.
-/
import Derived.Test.YtcbpeampjhegcaaRow
import Derived.Test.YtcbpeampjhegcaaAppS
namespace Go.Proofs.Ytcbpeampjhegcaa.kit
open Go.RowKit
set_option linter.unusedVariables false

theorem results_cell2 {P : Program} {fn : Func} {p u : Tmp} {ty : TypeId} (h : fn.results = #[.cell p ty, .tmp u]) (tmps : Array Value) (w : World) (g : Nat) (t : TypeId) (cs : Array Value) (fr : Nat × Nat) (d : TypeDesc)
    (hp : tmps.getD p undef = .pointer (some ⟨g, 0, none⟩)) (hg : w.heap[g]? = some (.cells cs t fr))
    (hu : P.underlying ty = some d) (hd : (match d with | .struct _ | .array _ _ => true | _ => false) = true) (hi : (P.info? ty).map (·.size) = some cs.size) (v : Value) (hv : tmps.getD u undef = v) :
    (results fn tmps).run P w = .ok (.tuple #[.agg cs, v]) w := by
  have hp' : tmps[p]?.getD undef = .pointer (some ⟨g, 0, none⟩) := by simpa using hp
  have hv' : tmps[u]?.getD undef = v := by simpa using hv
  simp [results, h, hp', hv', asAddr, run_loadVar_row w g t ty cs fr d hg hu hd hi]

/-- the block of an own row, and its cells -/
theorem own_cells {w : World} {B e sz n : Nat} {v : Value} {α : Type} {f : α → List Value} {xs : List α} (hf : ∀ x, (f x).length = sz) (h : w.ownsRow B e sz v n (flat f xs)) (hn : 0 < n) :
    ∃ g cap cur, v = .slice (some ⟨g, 0, none⟩) n cap ∧ B ≤ g ∧ g < w.heap.size ∧ n ≤ cap ∧ cap ≤ maxLen ∧ w.heap[g]? = some (.cells cur e (0, 0)) ∧ cur.size = cap * sz ∧
      ∀ (i : Nat) (x : α), xs[i]? = some x → ∀ (j : Nat) (y : Value), (f x)[j]? = some y → cur[i * sz + j]? = some y := by
  rcases h.2 with ⟨_, h0⟩ | ⟨g, cap, cur, rfl, hb, hg, h1, h2, h3, h4⟩
  · omega
  · refine ⟨g, cap, cur, rfl, hb, (Array.getElem?_eq_some_iff.1 hg).1, h1, h2, hg, h3, ?_⟩
    intro i x hx j y hy
    have h5 := flat_at f sz hf xs i x hx j y hy
    rw [← h4, List.getElem?_take] at h5
    split at h5
    · simpa using h5
    · cases h5
/-- a block's cells read as a slice -/
theorem block_slice {w : World} {g e sz n cap : Nat} {fr : Nat × Nat} {cur : Array Value} {α : Type} {f : α → List Value} {ys : List α} (hf : ∀ x, (f x).length = sz) (hg : w.heap[g]? = some (.cells cur e fr)) (hn : n = ys.length) (h1 : n ≤ cap) (h2 : cap ≤ maxLen)
    (hc : ∀ (i : Nat) (x : α), ys[i]? = some x → ∀ (j : Nat) (y : Value), (f x)[j]? = some y → cur[i * sz + j]? = some y) : SliceAt w sz (.slice (some ⟨g, 0, none⟩) n cap) (ys.map f) := by
  subst hn
  by_cases h0 : ys.length = 0
  · left
    exact ⟨by simpa using h0, .inr ⟨_, cap, by rw [h0]⟩⟩
  · right
    refine ⟨g, 0, cap, by simp, by simpa using h1, h2, by simp; omega, (Array.getElem?_eq_some_iff.1 hg).1, ?_⟩
    intro i r hr
    rw [List.getElem?_map] at hr
    obtain ⟨x, hx, rfl⟩ := Option.map_eq_some_iff.1 hr
    refine ⟨hf x, fun j y hy => ?_⟩
    rw [cell_of_row _ _ _ _ _ _ hg]
    simpa using hc i x hx j y hy
/-- w2 is w but for what the block G holds -/
structure Same (w w2 : World) (G : Nat) : Prop where
  os : w2.os = w.os
  tape : w2.tape = w.tape
  output : w2.output = w.output
  size : w2.heap.size = w.heap.size
  block : ∀ k, k ≠ G → w2.heap[k]? = w.heap[k]?
theorem Same.below {w0 w w2 : World} {B G : Nat} (h : Same w w2 G) (hb : Below B w0 w) (hG : B ≤ G) : Below B w0 w2 :=
  hb.trans ⟨h.os, h.tape, h.output, by rw [h.size]; exact Nat.le_refl _, fun k hk => h.block k (by omega)⟩
/-- the cells of a block behind a store of several -/
def Laid (cur cur' : Array Value) (off : Nat) (cs : List Value) : Prop :=
  cur'.size = cur.size ∧ ∀ j, cur'[j]? = if off ≤ j ∧ j < off + cs.length then cs[j - off]? else cur[j]?

/-- A struct stored into a block of the call's own: the walk goes on in a world of which only the blocks are known. -/
theorem opq_store {P : Program} {w : World} {ops : Array Oper} {rest : List Oper} {o : Oper} {a : Act} {Q : Exit → Act → World → Prop} (hgd : o.guard = none) (ty : TypeId) (x y : Operand) (ho : o.op = .store ty x y)
    (g off : Nat) (hx : a.eval x = .pointer (some ⟨g, off, none⟩)) (t : TypeId) (cur : Array Value) (cs : List Value) (hg : w.heap[g]? = some (.cells cur t (0, 0))) (hy : a.eval y = .agg cs.toArray) (hfit : off + cs.length ≤ cur.size)
    (hi : (P.info? ty).map (·.size) = some cs.length) (h1 : ∀ v ∈ cs, v.oneCell' = true)
    (h : ∀ w2 cur', Same w w2 g → w2.heap[g]? = some (.cells cur' t (0, 0)) → Laid cur cur' off cs → wpList P ops Q rest (a.put o.dst undef) w2) : wpList P ops Q (o :: rest) a w := by
  refine wpList_plain hgd fun K hK => ?_
  cases hq : P.info? ty with
  | none => simp [hq] at hi
  | some i =>
    have hs : i.size = cs.length := by simpa [hq] using hi
    have hst := run_storeCells_at P g off t cs 0 cur w hg (by simpa using hfit) h1
    simp only [Nat.add_zero] at hst
    have h2 := h (w.setRow g (cur.toList.take off ++ cs ++ cur.toList.drop (off + cs.length)).toArray) _ ⟨rfl, rfl, rfl, by simp [World.setRow], fun k hk => setRow_other w g k _ hk⟩ (setRow_heap w g cur _ t _ hg) ⟨by simp; omega, fun j => by
      simp only [List.getElem?_toArray, List.append_assoc, List.getElem?_append, List.length_take, Array.length_toList, List.getElem?_take, List.getElem?_drop, Array.getElem?_toList]
      rw [Nat.min_eq_left (by omega)]
      by_cases hj : j < off
      · rw [if_pos hj, if_pos hj, if_neg (by omega)]
      · rw [if_neg hj]
        by_cases hj2 : j - off < cs.length
        · rw [if_pos hj2, if_pos (by omega)]
        · rw [if_neg hj2, if_neg (by omega)]
          congr 1
          omega⟩
    unfold Oper.wp execOp
    simp only [ho, hx, hy, Instr.storeAt, Instr.sureAddr, Sem.run_bind, Sem.run_pure, Result.andThen_ok, storeVar, sizeOf, typeInfo, Value.cells]
    simp [hq, hs, Sem.run_bind, hst, Result.andThen_ok, Oper.upon]
    exact hK _ _ (by simpa using h2)
theorem own_set {w : World} {C e sz n G j : Nat} {v u : Value} {xs : List Value} (h : w.ownsRow C e sz v n xs) (hG : G < C) : (w.setCell ⟨G, j, none⟩ u).ownsRow C e sz v n xs := by
  refine ⟨h.1, ?_⟩
  rcases h.2 with h2 | ⟨g, cap, cur, rfl, hb, hg, r⟩
  · exact .inl h2
  · exact .inr ⟨g, cap, cur, rfl, hb, by rw [heap_setCell_other _ _ _ _ (by simp; omega)]; exact hg, r⟩
end Go.Proofs.Ytcbpeampjhegcaa.kit
