/-
  How a slice among the arguments is read: its elements, one behind the other, as rows of cells.
-/
import Derived.Test.YtcbpeampjhegcaaKit
import Derived.ProofKit
import Derived.ChangeArms
namespace Go.Proofs.Ytcbpeampjhegcaa.kit
open Go.RowKit
set_option linter.unusedVariables false

/-- The slice value v reads, in the world w, as these rows of 'sz' cells each. -/
def SliceAt (w : World) (sz : Nat) (v : Value) (rows : List (List Value)) : Prop :=
  (rows = [] ∧ (v = .slice none 0 0 ∨ ∃ a cap, v = .slice (some a) 0 cap)) ∨
  ∃ b off cap, v = .slice (some ⟨b, off, none⟩) rows.length cap ∧ rows.length ≤ cap ∧ cap ≤ maxLen ∧ 0 < rows.length ∧ b < w.heap.size ∧
    ∀ i r, rows[i]? = some r → r.length = sz ∧ ∀ j x, r[j]? = some x → w.cell? ⟨b, off + i * sz + j, none⟩ = some x

theorem SliceAt.below {w w' : World} {sz : Nat} {v : Value} {rows : List (List Value)} (h : SliceAt w sz v rows) {B : Nat} (hB : w.heap.size ≤ B) (hb : Below B w w') : SliceAt w' sz v rows := by
  rcases h with h | ⟨b, off, cap, h1, h2, h3, h4, h5, h6⟩
  · exact .inl h
  · refine .inr ⟨b, off, cap, h1, h2, h3, h4, Nat.lt_of_lt_of_le h5 hb.size, fun i r hr => ⟨(h6 i r hr).1, fun j x hx => ?_⟩⟩
    rw [hb.cell (p := ⟨b, off + i * sz + j, none⟩) (Nat.lt_of_lt_of_le h5 hB)]
    exact (h6 i r hr).2 j x hx

theorem cells?_spec {w : World} {base : Nat} {a : Addr} {n : Nat} {cs : List Value} (h : w.cells? base a n = some cs) : cs.length = n ∧ ∀ j x, cs[j]? = some x → w.cell? (a.add j) = some x := by
  unfold World.cells? at h
  split at h
  · have h2 : ∀ (l : List Nat) (cs : List Value), l.mapM (fun i => w.cell? (a.add i)) = some cs → cs.length = l.length ∧ ∀ (j : Nat) (x : Value), cs[j]? = some x → ∃ i : Nat, l[j]? = some i ∧ w.cell? (a.add i) = some x := by
      intro l
      induction l with
      | nil => intro cs h; simp at h; subst h; simp
      | cons i l ih =>
        intro cs h
        rw [List.mapM_cons] at h
        cases hi : w.cell? (a.add i) with
        | none => simp [hi] at h
        | some y =>
          cases hr : l.mapM (fun i => w.cell? (a.add i)) with
          | none => simp [hi, hr] at h
          | some ys =>
            simp [hi, hr] at h
            subst h
            have := ih ys hr
            refine ⟨by simp [this.1], ?_⟩
            intro j x hj
            cases j with
            | zero => simp at hj; subst hj; exact ⟨i, rfl, hi⟩
            | succ j => simp at hj ⊢; exact this.2 j x hj
    have := h2 _ _ h
    refine ⟨by simpa using this.1, ?_⟩
    intro j x hj
    obtain ⟨i, h3, h4⟩ := this.2 j x hj
    have : i = j := by
      have hlt := (List.getElem?_eq_some_iff.1 h3).1
      rw [List.getElem?_range (by simpa using hlt)] at h3
      exact (Option.some.inj h3).symm
    subst this
    exact h4
  · cases h

/-- the row number i of a slice that begins at a -/
def w_row (W : World) (a : Addr) (sz i : Nat) (row : List Value) : Prop := row.length = sz ∧ ∀ (j : Nat) (x : Value), row[j]? = some x → W.cell? ((a.add (i * sz)).add j) = some x

theorem choose_list {α : Type} {good : α → Prop} {R : Nat → α → Prop} : ∀ (n : Nat), (∀ i, i < n → ∃ y, good y ∧ R i y) → ∃ xs : List α, ∃ h : xs.length = n, ∀ i (hi : i < n), good (xs[i]'(by omega)) ∧ R i (xs[i]'(by omega)) := by
  intro n
  induction n with
  | zero => intro _; exact ⟨[], rfl, fun i hi => by omega⟩
  | succ n ih =>
    intro h
    obtain ⟨xs, hl, hxs⟩ := ih (fun i hi => h i (by omega))
    obtain ⟨y, hy⟩ := h n (by omega)
    refine ⟨xs ++ [y], by simp [hl], fun i hi => ?_⟩
    rcases Nat.lt_or_ge i n with h1 | h1
    · have e : (xs ++ [y])[i]'(by simp; omega) = xs[i]'(by omega) := List.getElem_append_left (by omega)
      rw [e]; exact hxs i h1
    · have hin : i = n := by omega
      subst hin
      have e : (xs ++ [y])[i]'(by simp; omega) = y := by rw [List.getElem_append_right (by omega)]; simp [hl]
      rw [e]; exact hy

/-- A slice among the arguments, by a decoder of its elements. -/
theorem open_slice_by {H : Type} {enc : TypeId × Value → H} {P : Program} {W : World} {base b0 : Nat} {r : Reach} {t e : TypeId} {v : Value} {d : DataW H} {ps : List MemPlace} {α : Type} (f : α → List Value) (good : α → Prop)
    (ht : P.underlying t = some (.slice e)) (sz : Nat) (hsz : P.cellsOf e = sz) (hsz0 : 0 < sz)
    (dec : ∀ fuel cs x, DataW.trod enc P W base (fun _ => true) true fuel e cs = some x → ∃ y, cs = f y ∧ good y)
    (hval : Value.okWide P W r b0 t v) (hd : DataW.Trod enc P W base (fun _ => true) true t v d ps) :
    ∃ xs : List α, SliceAt W sz v (xs.map f) ∧ (∀ x ∈ xs, good x) ∧ (d = .nil ∧ xs = [] ∨ ∃ el sp, d = .slice el sp ∧ el.length = xs.length) := by
  obtain ⟨a0, len, cap, rfl⟩ := Go.WideShapes.okWide_slice ht hval
  obtain ⟨fuel, hf⟩ := hd
  rcases DataW.trod_slice ht hf with ⟨hcs, hx⟩ | ⟨a, len', cap', elems, rest, n, hfu, hcs, hx, hb, hl, hm, hlen, hel, _, _⟩
  · simp [Value.cells] at hcs
    obtain ⟨rfl, rfl, rfl⟩ := hcs
    simp only [Prod.mk.injEq] at hx
    exact ⟨[], .inl ⟨rfl, .inl rfl⟩, by simp, .inl ⟨hx.1, rfl⟩⟩
  · simp [Value.cells] at hcs
    obtain ⟨rfl, rfl, rfl⟩ := hcs
    simp only [Prod.mk.injEq] at hx
    have hall : ∀ i, i < len → ∃ y, good y ∧ w_row W a sz i (f y) := by
      intro i hi
      have h1 := hel i hi
      cases hc : W.cells? base (a.add (i * P.cellsOf e)) (P.cellsOf e) with
      | none =>
        rw [hc] at h1
        have h2 : elems[i]? = some elems[i] := List.getElem?_eq_getElem (by omega)
        rw [h2] at h1
        cases h1
      | some cs =>
        rw [hc] at h1
        have h2 : elems[i]? = some elems[i] := List.getElem?_eq_getElem (by omega)
        rw [h2] at h1
        obtain ⟨y, rfl, hy⟩ := dec _ _ _ h1
        rw [hsz] at hc
        exact ⟨y, hy, cells?_spec hc⟩
    obtain ⟨xs, hxl, hxs⟩ := choose_list (R := fun i y => w_row W a sz i (f y)) len hall
    refine ⟨xs, ?_, fun x hx => ?_, .inr ⟨_, _, hx.1, by simp [hlen, hxl]⟩⟩
    · cases xs with
      | nil =>
        have : len = 0 := by simpa using hxl.symm
        subst this
        exact .inl ⟨rfl, .inr ⟨a, cap, rfl⟩⟩
      | cons x0 xs' =>
        have hlen0 : 0 < len := by rw [← hxl]; simp
        have h0 := (hxs 0 hlen0).2
        obtain ⟨h01, h02⟩ := h0
        have hr0 : ∃ y, (f ((x0 :: xs')[0]'(by simp)))[0]? = some y := ⟨_, List.getElem?_eq_getElem (by omega)⟩
        obtain ⟨y0, hy0⟩ := hr0
        have hc0 := h02 0 y0 hy0
        have hadd0 : (a.add (0 * sz)).add 0 = a := by simp [Addr.add]
        rw [hadd0] at hc0
        have hspot : a.spot = none := by
          unfold World.cell? at hc0
          split at hc0
          · split at hc0
            · cases hc0
            · rename_i hs; simpa using hs
          · cases hc0
        obtain ⟨b, off, spot⟩ := a
        simp only at hspot
        subst hspot
        refine .inr ⟨b, off, cap, by simp [← hxl], by (have h9 := hxl; simp at h9 ⊢; omega), hm, by simp, World.block_lt_of_cell? W _ hc0, ?_⟩
        intro i rr hi
        rw [List.getElem?_map] at hi
        cases hxi : (x0 :: xs')[i]? with
        | none => rw [hxi] at hi; cases hi
        | some z =>
          rw [hxi] at hi
          have hrr : f z = rr := by simpa using hi
          subst hrr
          have hilt : i < len := by rw [← hxl]; exact (List.getElem?_eq_some_iff.1 hxi).1
          have h3 := (hxs i hilt).2
          have hz : (x0 :: xs')[i]'(by rw [hxl]; exact hilt) = z := (List.getElem?_eq_some_iff.1 hxi).2
          rw [hz] at h3
          refine ⟨h3.1, fun j x hj => ?_⟩
          have h4 := h3.2 j x hj
          have hadd : ((⟨b, off, none⟩ : Addr).add (i * sz)).add j = ⟨b, off + i * sz + j, none⟩ := by
            unfold Addr.add
            split <;> split <;> simp_all
          rw [hadd] at h4
          exact h4
    · obtain ⟨i, hi⟩ := List.mem_iff_getElem?.1 hx
      have hilt := (List.getElem?_eq_some_iff.1 hi).1
      have := (hxs i (by omega)).1
      rw [(List.getElem?_eq_some_iff.1 hi).2] at this
      exact this
end Go.Proofs.Ytcbpeampjhegcaa.kit
