/-
  General laws: worlds grown, own rows read as slices, cells of new blocks.
-/
import Derived.Test.YtcbpeampjhegcaaKit3
import Derived.Test.YtcbpeampjhegcaaOpen
namespace Go.Proofs.Ytcbpeampjhegcaa.kit
open Go.RowKit
set_option linter.unusedVariables false

theorem grown_refl (w : World) (r : Option Nat) : w.grownBy w r := ⟨rfl, rfl, rfl, Nat.le_refl _, fun _ _ _ => rfl⟩
theorem grown_trans {w w1 w2 : World} {r : Option Nat} (h : w.grownBy w1 r) (k : w1.grownBy w2 r) : w.grownBy w2 r :=
  ⟨k.os.trans h.os, k.tape.trans h.tape, k.output.trans h.output, Nat.le_trans h.size k.size, fun i hi hn => (k.block i (Nat.lt_of_lt_of_le hi h.size) hn).trans (h.block i hi hn)⟩
theorem grown_set {w w1 : World} {A : Nat} (h : w.grownBy w1 (some A)) (j : Nat) (v : Value) : w.grownBy (w1.setCell ⟨A, j, none⟩ v) (some A) :=
  have k := (Below.refl 0 w1).setCell (p := ⟨A, j, none⟩) (Nat.zero_le _) v
  ⟨k.os.trans h.os, k.tape.trans h.tape, k.output.trans h.output, Nat.le_trans h.size k.size, fun i hi hn => by
    rw [heap_setCell_other _ _ _ _ (by intro e; apply hn; exact congrArg some e)]; exact h.block i hi hn⟩
theorem grown_drew {w w1 : World} {r : Option Nat} (h : w.grownBy w1 r) : w.grownBy w1.drew r := ⟨h.os, h.tape, h.output, h.size, h.block⟩
theorem grown_below {w w1 : World} {A B : Nat} (h : w.grownBy w1 (some A)) (hA : B ≤ A) (hB : B ≤ w.heap.size) : Below B w w1 :=
  ⟨h.os, h.tape, h.output, h.size, fun k hk => h.block k (Nat.lt_of_lt_of_le hk hB) (by intro e; have := Option.some.inj e; omega)⟩

theorem own_ne {w : World} {B e n : Nat} {v : Value} {xs : List Value} (h : w.ownsRow B e 1 v n xs) {a : Nat} (ha : a < B) : some a ≠ v.ownBlock := by
  intro e'
  rcases h.2 with ⟨rfl, _⟩ | ⟨g, cap, cur, rfl, hb, _⟩
  · simp [Value.ownBlock] at e'
  · simp [Value.ownBlock] at e'
    omega
theorem own_mono {w : World} {B C e n : Nat} {v : Value} {xs : List Value} (h : w.ownsRow B e 1 v n xs) (hc : C ≤ B) : w.ownsRow C e 1 v n xs := by
  refine ⟨h.1, ?_⟩
  rcases h.2 with h2 | ⟨g, cap, cur, rfl, hb, r⟩
  · exact .inl h2
  · exact .inr ⟨g, cap, cur, rfl, Nat.le_trans hc hb, r⟩
/-- an own row read as a slice -/
theorem own_slice {w : World} {B e : Nat} {v : Value} {α : Type} {xs : List α} {f : α → Value} {n : Nat} (hl : n = xs.length) (h : w.ownsRow B e 1 v n (xs.map f)) : SliceAt w 1 v (xs.map fun x => [f x]) := by
  subst hl
  rcases h.2 with ⟨rfl, h0⟩ | ⟨g, cap, cur, rfl, hb, hg, h1, h2, h3, h4⟩
  · left
    exact ⟨by simpa using h0, .inl rfl⟩
  · by_cases h0 : xs.length = 0
    · left
      exact ⟨by simpa using h0, .inr ⟨_, cap, by rw [h0]⟩⟩
    · right
      refine ⟨g, 0, cap, by simp, by simpa using h1, h2, by simp; omega, (Array.getElem?_eq_some_iff.1 hg).1, ?_⟩
      intro i r hr
      rw [List.getElem?_map] at hr
      obtain ⟨x, hx, rfl⟩ := Option.map_eq_some_iff.1 hr
      refine ⟨rfl, ?_⟩
      intro j y hy
      have hj : j = 0 := by have := (List.getElem?_eq_some_iff.1 hy).1; simp at this; omega
      subst hj
      simp at hy
      subst hy
      have hgi : some g = (Value.slice (some ⟨g, 0, none⟩) xs.length cap).ownBlock := rfl
      have := h.cells hgi.symm i (f x) (by rw [List.getElem?_map, hx]; rfl)
      have ea : (⟨g, 0, none⟩ : Addr).add i = ⟨g, i, none⟩ := by unfold Addr.add; split <;> simp_all
      rw [ea] at this
      simpa [Nat.mul_one] using this

/-- a slice's value and cells, empty or not -/
theorem SliceAt.view {w : World} {sz : Nat} {v : Value} {rows : List (List Value)} (h : SliceAt w sz v rows) :
    ∃ q cap b off, v = .slice q rows.length cap ∧ (∀ k, k < rows.length → q = some ⟨b, off, none⟩ ∧ b < w.heap.size) ∧ ∀ i r, rows[i]? = some r → ∀ j x, r[j]? = some x → w.cell? ⟨b, off + i * sz + j, none⟩ = some x := by
  rcases h with ⟨rfl, hv⟩ | ⟨b, off, cap, rfl, hcap, hmax, hpos, hblk, hrows⟩
  · rcases hv with rfl | ⟨a, cap, rfl⟩
    · exact ⟨none, 0, 0, 0, rfl, fun k hk => by simp at hk, fun i r hr => by simp at hr⟩
    · exact ⟨some a, cap, 0, 0, rfl, fun k hk => by simp at hk, fun i r hr => by simp at hr⟩
  · exact ⟨_, cap, b, off, rfl, fun _ _ => ⟨rfl, hblk⟩, fun i r hr => (hrows i r hr).2⟩

theorem take_one {α : Type} {xs : List α} {k : Nat} {p : α} (hp : xs[k]? = some p) : xs.take (k + 1) = xs.take k ++ [p] := by
  rw [List.take_add_one, hp]; rfl
theorem eq_take {xs ys : List Int} {k : Nat} {x y : Int} (hx : xs[k]? = some x) (hy : ys[k]? = some y) (h : xs.take k = ys.take k) (e : x = y) : xs.take (k + 1) = ys.take (k + 1) := by
  rw [take_one hx, take_one hy, h, e]

theorem own_ext {w w' : World} {B e n : Nat} {v : Value} {xs : List Value} (h : w.ownsRow B e 1 v n xs) (hg : w.grownBy w' none) : w'.ownsRow B e 1 v n xs :=
  h.kept hg (by cases v.ownBlock <;> simp)
theorem below_ext {W w w' : World} (h : Below W.heap.size W w) (hg : w.grownBy w' none) : Below W.heap.size W w' :=
  h.trans ⟨hg.os, hg.tape, hg.output, hg.size, fun k hk => hg.block k (Nat.lt_of_lt_of_le hk h.size) (by simp)⟩
theorem grown_al {w w' : World} (h : w.grownBy w' none) (o : Obj) : w.grownBy (w'.alloc o) none :=
  grown_trans h (World.grownBy_alloc _ _ _)
theorem own_lt {w : World} {B e n : Nat} {v : Value} {xs : List Value} (h : w.ownsRow B e 1 v n xs) {a : Nat} (ha : w.heap.size ≤ a) : some a ≠ v.ownBlock := by
  intro e'
  rcases h.2 with ⟨rfl, _⟩ | ⟨g, cap, cur, rfl, hb, hg, _⟩
  · simp [Value.ownBlock] at e'
  · simp [Value.ownBlock] at e'
    have := (Array.getElem?_eq_some_iff.1 hg).1
    omega

theorem cell_new {w : World} {xs : Array Value} {e n j : Nat} {v : Value} (h : n = w.heap.size) (hx : xs[j]? = some v) : (w.alloc (.cells xs e)).cell? ⟨n, j, none⟩ = some v := by
  subst h
  rw [cell_of_row _ _ _ _ _ _ (heap_alloc_new _ _)]
  exact hx
theorem cell_old {w : World} {o : Obj} {a : Addr} {v : Value} (h : w.cell? a = some v) : (w.alloc o).cell? a = some v :=
  (World.grownBy_alloc w o none).cell h (by simp)
theorem own_apart {w : World} {B C e f n m : Nat} {u v : Value} {xs ys : List Value} (h : w.ownsRow B e 1 u n xs) (k : w.ownsRow C f 1 v m ys) (hne : e ≠ f) : u.ownBlock = none ∨ u.ownBlock ≠ v.ownBlock := by
  rcases h.2 with ⟨rfl, _⟩ | ⟨g, cap, cur, rfl, hb, hg, _⟩
  · exact .inl rfl
  · rcases k.2 with ⟨rfl, _⟩ | ⟨g2, cap2, cur2, rfl, hb2, hg2, _⟩
    · right; simp [Value.ownBlock]
    · right
      simp only [Value.ownBlock]
      intro e'
      have e2 : g = g2 := Option.some.inj e'
      subst e2
      rw [hg] at hg2
      simp at hg2
      exact hne hg2.2

theorem grown_of_below {w w' : World} (h : Below w.heap.size w w') : w.grownBy w' none := ⟨h.os, h.tape, h.output, h.size, fun k hk _ => h.block k hk⟩
/-- a slice literal of one-cell elements -/
theorem lit_slice {w : World} {e : Nat} (xs : List Value) (n cap : Nat) (hn : n = xs.length) (h0 : 0 < xs.length) (hm : xs.length ≤ cap) (hc : cap ≤ maxLen) : SliceAt (w.alloc (.cells xs.toArray e)) 1 (.slice (some ⟨w.heap.size, 0, none⟩) n cap) (xs.map fun x => [x]) := by
  subst hn
  refine .inr ⟨w.heap.size, 0, cap, by simp, by simpa using hm, hc, by simpa using h0, by simp, ?_⟩
  intro i r hr
  rw [List.getElem?_map] at hr
  obtain ⟨x, hx, rfl⟩ := Option.map_eq_some_iff.1 hr
  refine ⟨rfl, fun j y hy => ?_⟩
  have hj : j = 0 := by have := (List.getElem?_eq_some_iff.1 hy).1; simp at this; omega
  subst hj
  have hy1 : x = y := by simpa using hy
  subst hy1
  exact cell_new rfl (by simpa using hx)
end Go.Proofs.Ytcbpeampjhegcaa.kit
