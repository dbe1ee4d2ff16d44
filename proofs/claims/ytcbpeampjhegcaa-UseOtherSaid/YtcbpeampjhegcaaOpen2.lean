/-
  How a slice is read that is a field of a struct among the arguments.
-/
import Derived.Test.YtcbpeampjhegcaaOpen
import Derived.Lib.SmallJoins
import Derived.SizedLaws
namespace Go.Proofs.Ytcbpeampjhegcaa.kit
open Go.RowKit
set_option linter.unusedVariables false

theorem open_slice_cell {H : Type} {enc : TypeId × Value → H} {P : Program} {W : World} {base : Nat} {t e : TypeId} {v : Value} {d : DataW H × List MemPlace} {fuel0 : Nat} {α : Type} (f : α → List Value) (good : α → Prop)
    (ht : P.underlying t = some (.slice e)) (sz : Nat) (hsz : P.cellsOf e = sz) (hsz0 : 0 < sz)
    (dec : ∀ fuel cs x, DataW.trod enc P W base (fun _ => true) true fuel e cs = some x → ∃ y, cs = f y ∧ good y)
    (hf : DataW.trod enc P W base (fun _ => true) true fuel0 t [v] = some d) :
    ∃ xs : List α, SliceAt W sz v (xs.map f) ∧ (∀ x ∈ xs, good x) ∧ (d.1 = .nil ∧ xs = [] ∨ ∃ el sp, d.1 = .slice el sp ∧ el.length = xs.length) := by
  rcases DataW.trod_slice ht hf with ⟨hcs, hx⟩ | ⟨a, len, cap, elems, rest, n, hfu, hcs, hx, hb, hl, hm, hlen, hel, _, _⟩
  · have hv : v = .slice none 0 0 := by simpa using hcs
    subst hv
    exact ⟨[], .inl ⟨rfl, .inl rfl⟩, by simp, .inl ⟨by rw [hx], rfl⟩⟩
  · have hv : v = .slice (some a) len cap := by simpa using hcs
    subst hv
    have hall : ∀ i, i < len → ∃ y, good y ∧ w_row W a sz i (f y) := by
      intro i hi
      have h1 := hel i hi
      cases hc : W.cells? base (a.add (i * P.cellsOf e)) (P.cellsOf e) with
      | none =>
        rw [hc] at h1
        have h2 : elems[i]? = some elems[i] := List.getElem?_eq_getElem (by omega)
        rw [h2] at h1
        cases h1
      | some cs =>
        rw [hc] at h1
        have h2 : elems[i]? = some elems[i] := List.getElem?_eq_getElem (by omega)
        rw [h2] at h1
        obtain ⟨y, rfl, hy⟩ := dec _ _ _ h1
        rw [hsz] at hc
        exact ⟨y, hy, cells?_spec hc⟩
    obtain ⟨xs, hxl, hxs⟩ := choose_list (R := fun i y => w_row W a sz i (f y)) len hall
    refine ⟨xs, ?_, fun x hx => ?_, .inr ⟨elems.map (·.1), rest.map (·.1), by rw [hx], by simp [hlen, hxl]⟩⟩
    · cases xs with
      | nil =>
        have : len = 0 := by simpa using hxl.symm
        subst this
        exact .inl ⟨rfl, .inr ⟨a, cap, rfl⟩⟩
      | cons x0 xs' =>
        have hlen0 : 0 < len := by rw [← hxl]; simp
        have h0 := (hxs 0 hlen0).2
        obtain ⟨h01, h02⟩ := h0
        have hr0 : ∃ y, (f ((x0 :: xs')[0]'(by simp)))[0]? = some y := ⟨_, List.getElem?_eq_getElem (by omega)⟩
        obtain ⟨y0, hy0⟩ := hr0
        have hc0 := h02 0 y0 hy0
        have hadd0 : (a.add (0 * sz)).add 0 = a := by simp [Addr.add]
        rw [hadd0] at hc0
        have hspot : a.spot = none := by
          unfold World.cell? at hc0
          split at hc0
          · split at hc0
            · cases hc0
            · rename_i hs; simpa using hs
          · cases hc0
        obtain ⟨b, off, spot⟩ := a
        simp only at hspot
        subst hspot
        refine .inr ⟨b, off, cap, by simp [← hxl], by (have h9 := hxl; simp at h9 ⊢; omega), hm, by simp, World.block_lt_of_cell? W _ hc0, ?_⟩
        intro i rr hi
        rw [List.getElem?_map] at hi
        cases hxi : (x0 :: xs')[i]? with
        | none => rw [hxi] at hi; cases hi
        | some z =>
          rw [hxi] at hi
          have hrr : f z = rr := by simpa using hi
          subst hrr
          have hilt : i < len := by rw [← hxl]; exact (List.getElem?_eq_some_iff.1 hxi).1
          have h3 := (hxs i hilt).2
          have hz : (x0 :: xs')[i]'(by rw [hxl]; exact hilt) = z := (List.getElem?_eq_some_iff.1 hxi).2
          rw [hz] at h3
          refine ⟨h3.1, fun j x hj => ?_⟩
          have h4 := h3.2 j x hj
          have hadd : ((⟨b, off, none⟩ : Addr).add (i * sz)).add j = ⟨b, off + i * sz + j, none⟩ := by
            unfold Addr.add
            split <;> split <;> simp_all
          rw [hadd] at h4
          exact h4
    · obtain ⟨i, hi⟩ := List.mem_iff_getElem?.1 hx
      have hilt := (List.getElem?_eq_some_iff.1 hi).1
      have := (hxs i (by omega)).1
      rw [(List.getElem?_eq_some_iff.1 hi).2] at this
      exact this

theorem sized_agg {H : Type} {P : Program} {ts : List TypeId} {ds parts : List (DataW H)} (h : (DataW.weightsEach P ts ds).all (· ≤ reachBytes) = true) {j : Nat} {t : TypeId} {fs : Array Field} (ht : ts[j]? = some t) (hd : ds[j]? = some (.agg parts)) (hu : P.underlying t = some (.struct fs)) :
    (DataW.weightsEach P (fs.toList.map (·.type)) parts).all (· ≤ reachBytes) = true := by
  rw [List.all_eq_true] at h ⊢
  intro n hn
  exact h n (DataW.weights_mem_each ht hd n (by simpa [DataW.weights, hu] using hn))
end Go.Proofs.Ytcbpeampjhegcaa.kit
