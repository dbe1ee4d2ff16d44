/-
  Rows of elements of several cells: one element appended, an own row read as a slice. Nothing here speaks of the program.
-/
import Derived.Test.YtcbpeampjhegcaaMore
namespace Go.Proofs.Ytcbpeampjhegcaa.kit
open Go.RowKit
set_option linter.unusedVariables false

/-- the cells of rows laid one behind the other -/
def flat {α : Type} (f : α → List Value) (xs : List α) : List Value := (xs.map f).flatten
theorem flat_snoc {α : Type} (f : α → List Value) (xs : List α) (x : α) : flat f xs ++ f x = flat f (xs ++ [x]) := by simp [flat]
theorem flat_len {α : Type} (f : α → List Value) (sz : Nat) (hf : ∀ x, (f x).length = sz) : ∀ xs : List α, (flat f xs).length = xs.length * sz := by
  intro xs
  induction xs with
  | nil => simp [flat]
  | cons x xs ih =>
    have : flat f (x :: xs) = f x ++ flat f xs := rfl
    rw [this, List.length_append, ih, hf, List.length_cons, Nat.succ_mul, Nat.add_comm]
theorem flat_at {α : Type} (f : α → List Value) (sz : Nat) (hf : ∀ x, (f x).length = sz) : ∀ (xs : List α) (i : Nat) (x : α), xs[i]? = some x → ∀ (j : Nat) (y : Value), (f x)[j]? = some y → (flat f xs)[i * sz + j]? = some y := by
  intro xs
  induction xs with
  | nil => intro i x h; simp at h
  | cons a xs ih =>
    intro i x h j y hj
    have e : flat f (a :: xs) = f a ++ flat f xs := rfl
    have hjl := (List.getElem?_eq_some_iff.1 hj).1
    rw [hf] at hjl
    rw [e]
    cases i with
    | zero =>
      simp at h
      subst h
      rw [Nat.zero_mul, Nat.zero_add, List.getElem?_append_left (by rw [hf]; exact hjl)]
      exact hj
    | succ i =>
      rw [List.getElem?_append_right (by rw [hf, Nat.succ_mul]; omega), hf, Nat.succ_mul, show i * sz + sz + j - sz = i * sz + j from by omega]
      exact ih i x (by simpa using h) j y hj

/-- 'out = append(out, x)', x of several cells, out nil or the call's own: the walk goes on behind it. -/
theorem appN {P : Program} {w0 w : World} {B : Nat} {t e : TypeId} {sz bytes : Nat} {z : Value} (hT : SliceTy P t e sz bytes z) {ops : Array Oper} {rest : List Oper} {o : Oper} {a : Act} {Q : Exit → Act → World → Prop} (hgd : o.guard = none) (s x : Operand)
    (ho : o.op = .call { callee := .builtin .append, args := #[s, x], argTypes := #[t, t] })
    (v : Value) (us : List Value) (n : Nat) (xs : List Value) (hs : a.eval s = v) (hx : a.eval x = .slice (some ⟨w.heap.size, 0, none⟩) 1 1)
    (hown : w.ownsRow B e sz v n xs) (hul : us.length = sz) (hu : ∀ u ∈ us, u.oneCell' = true)
    (hbytes : (n + 1) * bytes ≤ 140737488355328) (h63 : n + 1 ≤ maxLen) (hb : Below B w0 w) (hB : B ≤ w.heap.size)
    (h : ∀ v' w', w'.ownsRow B e sz v' (n + 1) (xs ++ us) → w.grownBy w' v.ownBlock → Below B w0 w' → B ≤ w'.heap.size → wpList P ops Q rest (a.put o.dst v') w') :
    wpList P ops Q (o :: rest) a (w.alloc (.cells us.toArray e)) := by
  obtain ⟨h1, h2, h3, i, hi1, hi2, hi3, hi4⟩ := hT
  refine wpList_append_own (w := w.alloc (.cells us.toArray e)) hgd s x t ho B e i z sz bytes h1 hi1 hi2 hi3 hi4 h2 h3 v n xs hs (hown.alloc _) ⟨w.heap.size, 0, none⟩ 1 1 us hx (by simp [hul]) ?_ hu h63 hbytes (by simp; omega) ?_
  · intro j y hj
    have ea : (⟨w.heap.size, 0, none⟩ : Addr).add j = ⟨w.heap.size, j, none⟩ := by unfold Addr.add; split <;> simp_all
    rw [ea]
    exact cell_new rfl (by simpa using hj)
  · intro v' w' ho' hg _
    have hgr : w.grownBy w' v.ownBlock := by
      refine ⟨hg.os, hg.tape, hg.output, ?_, ?_⟩
      · have := hg.size; simp at this; omega
      · intro k hk hne
        rw [hg.block k (by simp; omega) hne]
        exact heap_alloc_old w _ hk
    exact h v' w' ho' hgr (hb.grown hgr hB (fun k hk => (hown.lt k hk).1)) (Nat.le_trans hB hgr.size)

/-- an own row of such elements, read as a slice -/
theorem own_sliceN {w : World} {B e sz : Nat} {v : Value} {α : Type} {xs : List α} {f : α → List Value} {n : Nat} (hf : ∀ x, (f x).length = sz) (hl : n = xs.length) (h : w.ownsRow B e sz v n (flat f xs)) : SliceAt w sz v (xs.map f) := by
  subst hl
  rcases h.2 with ⟨rfl, h0⟩ | ⟨g, cap, cur, rfl, hb, hg, h1, h2, h3, h4⟩
  · left
    exact ⟨by simpa using h0, .inl rfl⟩
  · by_cases h0 : xs.length = 0
    · left
      exact ⟨by simpa using h0, .inr ⟨_, cap, by rw [h0]⟩⟩
    · right
      refine ⟨g, 0, cap, by simp, by simpa using h1, h2, by simp; omega, (Array.getElem?_eq_some_iff.1 hg).1, ?_⟩
      intro i r hr
      rw [List.getElem?_map] at hr
      obtain ⟨x, hx, rfl⟩ := Option.map_eq_some_iff.1 hr
      refine ⟨hf x, ?_⟩
      intro j y hy
      have hgi : some g = (Value.slice (some ⟨g, 0, none⟩) xs.length cap).ownBlock := rfl
      have := h.cells hgi.symm (i * sz + j) y (flat_at f sz hf xs i x hx j y hy)
      have ea : (⟨g, 0, none⟩ : Addr).add (i * sz + j) = ⟨g, i * sz + j, none⟩ := by unfold Addr.add; split <;> simp_all
      rw [ea] at this
      simpa using this
theorem own_lenN {w : World} {B e n sz : Nat} {v : Value} {xs : List Value} (h : w.ownsRow B e sz v n xs) : ∃ q cap, v = .slice q n cap ∧ (q = none ∨ ∃ g, q = some ⟨g, 0, none⟩) := by
  rcases h.2 with ⟨rfl, h0⟩ | ⟨g, cap, cur, rfl, _⟩
  · subst h0; exact ⟨_, _, rfl, .inl rfl⟩
  · exact ⟨_, _, rfl, .inr ⟨_, rfl⟩⟩
theorem own_typeN {w : World} {B e n G f sz : Nat} {v : Value} {xs : List Value} {cs : Array Value} {fr : Nat × Nat} (h : w.ownsRow B e sz v n xs) (hg : w.heap[G]? = some (.cells cs f fr)) (hne : f ≠ e) : some G ≠ v.ownBlock := by
  rcases h.2 with ⟨rfl, _⟩ | ⟨g, cap, cur, rfl, hb, hgg, _⟩
  · simp [Value.ownBlock]
  · simp only [Value.ownBlock]
    intro e'
    have e2 : G = g := Option.some.inj e'
    subst e2
    rw [hg] at hgg
    simp at hgg
    exact hne hgg.2.1
end Go.Proofs.Ytcbpeampjhegcaa.kit
