/-
  BlobSplit: the plain law: no division takes fewer cells. No program in sight.
-/
import Derived.Test.YtkkgmgffkjeklaaRefBlobs
namespace Go.Proofs.Ytkkgmgffkjeklaa.blob
open Go.RowKit kit sl
set_option linter.unusedVariables false
/-- the blobs from k to i -/
def sub (l : List Blob) (k i : Nat) : List Blob := (l.take i).drop k
theorem sub_len (l : List Blob) {k i : Nat} (h : k ≤ i) (hi : i ≤ l.length) : (sub l k i).length = i - k := by
  unfold sub
  rw [List.length_drop, List.length_take]; omega
theorem sub_next (l : List Blob) {k i : Nat} {p : Blob} (h : k ≤ i) (hp : l[i]? = some p) : sub l k (i + 1) = sub l k i ++ [p] := by
  unfold sub
  have hi := (List.getElem?_eq_some_iff.1 hp).1
  rw [take_one hp, List.drop_append]
  have : k - (l.take i).length = 0 := by rw [List.length_take]; omega
  rw [this]
  rfl
theorem sub_self (l : List Blob) (k : Nat) : sub l k k = [] := by
  unfold sub
  rw [List.drop_eq_nil_of_le (by rw [List.length_take]; omega)]
theorem body_snoc (l : List Blob) (p : Blob) : (bodyB (l ++ [p])).length = (bodyB l).length + (oneB p).length := by
  rw [bodyB_app, List.length_append]
  simp [bodyB]
theorem sub_cut (l : List Blob) {a k i : Nat} (h1 : a ≤ k) (h2 : k ≤ i) (hi : i ≤ l.length) : sub l a i = sub l a k ++ sub l k i := by
  unfold sub
  have e : (l.take i).drop a = ((l.take i).drop a).take (k - a) ++ ((l.take i).drop a).drop (k - a) := (List.take_append_drop _ _).symm
  rw [e, List.drop_drop, show a + (k - a) = k by omega]
  congr 1
  rw [List.take_drop, show a + (k - a) = k by omega, List.take_take, Nat.min_eq_left h2]
theorem body_ge {l : List Blob} {a k i : Nat} (h1 : a ≤ k) (h2 : k ≤ i) (hi : i ≤ l.length) : (bodyB (sub l k i)).length ≤ (bodyB (sub l a i)).length := by
  rw [sub_cut l h1 h2 hi, bodyB_app, List.length_append]; omega
theorem body_le {l : List Blob} {k i j : Nat} (h1 : k ≤ i) (h2 : i ≤ j) (hi : j ≤ l.length) : (bodyB (sub l k i)).length ≤ (bodyB (sub l k j)).length := by
  rw [sub_cut l h1 h2 hi, bodyB_app, List.length_append]; omega
/-- how many cells the first i blobs take -/
def Few (l : List Blob) (B : Nat → Nat) (n : Nat) : Prop := B 0 = 0 ∧ ∀ i, 1 ≤ i → i ≤ n → (∃ k, k < i ∧ fits (sub l k i) ∧ B i = B k + 1) ∧ ∀ k, k < i → fits (sub l k i) → B i ≤ B k + 1
theorem few_mono {l : List Blob} {B : Nat → Nat} (h : Few l B l.length) {i : Nat} (hi : i < l.length) : B i ≤ B (i + 1) := by
  obtain ⟨h0, h⟩ := h
  obtain ⟨⟨k, h1, h2, h3⟩, _⟩ := h (i + 1) (by omega) (by omega)
  by_cases hk : k = i
  · subst hk; omega
  · have hki : k < i := by omega
    have hf : fits (sub l k i) := by
      have e1 := sub_len l (show k ≤ i by omega) (by omega)
      have e2 := sub_len l (show k ≤ i + 1 by omega) (by omega)
      have e3 := body_le (l := l) (show k ≤ i by omega) (show i ≤ i + 1 by omega) (by omega)
      exact ⟨by have := h2.1; omega, by have := h2.2; omega⟩
    have := (h i (by omega) (by omega)).2 k hki hf
    omega
/-- the cuts, from a on -/
def Segs (l : List Blob) : List Int → Nat → Prop
  | [], a => a = l.length
  | x :: ns, a => ∃ n : Nat, x = (n : Int) ∧ 1 ≤ n ∧ a + n ≤ l.length ∧ fits (sub l a (a + n)) ∧ Segs l ns (a + n)
/-- before blob i: 'out' cuts what lies ahead of a, the cell begun on begins at a -/
structure Way (l : List Blob) (out : List Int) (a i sz : Nat) : Prop where
  ai : a ≤ i
  il : i ≤ l.length
  zero : i = 0 → out = []
  pos : 0 < i → a < i
  sz : sz = 2 + (bodyB (sub l a i)).length
  fit : fits (sub l a i)
  segs : ∀ r, Segs l r a → Segs l (out ++ r) 0
  few : ∀ B, Few l B l.length → B a = out.length ∧ ∀ j, a < j → j ≤ i → B j = out.length + 1
theorem way_start (l : List Blob) : Way l [] 0 0 2 where
  ai := Nat.le_refl _
  il := Nat.zero_le _
  zero := fun _ => rfl
  pos := fun h => absurd h (Nat.lt_irrefl _)
  sz := by rw [sub_self]; rfl
  fit := by rw [sub_self]; exact ⟨Nat.zero_le _, Nat.zero_le _⟩
  segs := fun r h => h
  few := fun B h => ⟨h.1, fun j h1 h2 => by omega⟩
theorem gr_law {l : List Blob} (hr : ∀ p ∈ l, blobE p = 0) : ∀ (t : List Blob) (i a sz : Nat) (out : List Int), l.drop i = t → Way l out a i sz → Segs l (grF t (i - a) sz out) 0 ∧ ∀ B, Few l B l.length → (grF t (i - a) sz out).length = B l.length := by
  intro t
  induction t with
  | nil =>
    intro i a sz out ht w
    have hil : i = l.length := by
      have := congrArg List.length ht
      rw [List.length_drop, List.length_nil] at this
      have := w.il; omega
    rw [grF]
    by_cases hi : 0 < i
    · have hai := w.pos hi
      rw [if_pos (by omega)]
      refine ⟨w.segs _ ⟨i - a, rfl, by omega, by omega, ?_, ?_⟩, fun B hB => ?_⟩
      · rw [show a + (i - a) = i by omega]; exact w.fit
      · show a + (i - a) = l.length; omega
      · rw [List.length_append, List.length_singleton, ← hil]
        exact ((w.few B hB).2 i hai (Nat.le_refl _)).symm
    · have h0 : i = 0 := by omega
      subst h0
      have ha : a = 0 := by have := w.ai; omega
      subst ha
      rw [if_neg (by omega), w.zero rfl]
      refine ⟨?_, fun B hB => ?_⟩
      · have := w.segs [] hil
        rwa [w.zero rfl] at this
      · rw [← hil]; exact hB.1.symm
  | cons p t ih =>
    intro i a sz out ht w
    have hlt : i < l.length := by
      rcases Nat.lt_or_ge i l.length with h | h
      · exact h
      · rw [List.drop_eq_nil_of_le h] at ht; cases ht
    have hp : l[i]? = some p := by
      have := congrArg (fun r => r[0]?) ht
      simpa using this
    have ht2 : l.drop (i + 1) = t := by
      rw [← List.drop_drop, ht]; rfl
    have hz := hr p (List.mem_of_getElem? hp)
    have hob := oneB_bd (blobE_zero hz).2.2.2.2.2.2
    have hsn := sub_next l w.ai hp
    have hbn : (bodyB (sub l a (i + 1))).length = (bodyB (sub l a i)).length + (oneB p).length := by rw [hsn, body_snoc]
    have hln := sub_len l w.ai (by omega : i ≤ l.length)
    have hai := w.ai
    have hsz := w.sz
    have h1fit : fits (sub l i (i + 1)) := by
      rw [sub_next l (Nat.le_refl i) hp, sub_self]
      refine ⟨by simp, ?_⟩
      rw [body_snoc]
      show 0 + _ ≤ 998
      omega
    rw [grF]
    by_cases hfull : i - a = 40 ∨ 1000 < sz + (oneB p).length
    · rw [if_pos hfull]
      have hi : 0 < i := by
        rcases Nat.eq_zero_or_pos i with h | h
        · subst h
          have ha : a = 0 := by omega
          subst ha
          rw [sub_self] at hsz
          have : sz = 2 := hsz
          omega
        · exact h
      have hap := w.pos hi
      have hnf : ¬ fits (sub l a (i + 1)) := fun h => by
        have e1 := h.1
        have e2 := h.2
        rw [sub_len l (by omega) hlt] at e1
        omega
      have hw : Way l (out ++ [((i - a : Nat) : Int)]) i (i + 1) (2 + (oneB p).length) := {
        ai := by omega
        il := hlt
        zero := fun h => by omega
        pos := fun _ => by omega
        sz := by
          rw [sub_next l (Nat.le_refl i) hp, sub_self, body_snoc]
          show _ = 2 + (0 + _)
          omega
        fit := h1fit
        segs := fun r h => by
          rw [List.append_assoc]
          refine w.segs _ ⟨i - a, rfl, by omega, by omega, ?_, ?_⟩
          · rw [show a + (i - a) = i by omega]; exact w.fit
          · show Segs l r (a + (i - a)); rw [show a + (i - a) = i by omega]; exact h
        few := fun B hB => by
          obtain ⟨f1, f2⟩ := w.few B hB
          rw [List.length_append, List.length_singleton]
          refine ⟨f2 i hap (Nat.le_refl _), fun j h1 h2 => ?_⟩
          obtain rfl : j = i + 1 := by omega
          obtain ⟨⟨k, g1, g2, g3⟩, g4⟩ := hB.2 (i + 1) (by omega) hlt
          have hup := g4 i (by omega) h1fit
          rw [f2 i hap (Nat.le_refl _)] at hup
          have hka : a < k := by
            rcases Nat.lt_or_ge a k with h | h
            · exact h
            · exfalso
              apply hnf
              have e1 := g2.1
              have e2 := g2.2
              have e3 := body_ge (l := l) h (show a ≤ i + 1 by omega) hlt
              rw [sub_len l (by omega) hlt] at e1
              exact ⟨by rw [sub_len l (by omega) hlt]; omega, by omega⟩
          rw [f2 k hka (by omega)] at g3
          omega }
      have := ih (i + 1) i _ _ ht2 hw
      rwa [show i + 1 - i = 1 by omega] at this
    · rw [if_neg hfull]
      have hfit : fits (sub l a (i + 1)) := ⟨by rw [sub_len l (by omega) hlt]; have := w.fit.1; omega, by omega⟩
      have hw : Way l out a (i + 1) (sz + (oneB p).length) := {
        ai := by omega
        il := hlt
        zero := fun h => by omega
        pos := fun _ => by omega
        sz := by rw [hbn]; omega
        fit := hfit
        segs := w.segs
        few := fun B hB => by
          obtain ⟨f1, f2⟩ := w.few B hB
          refine ⟨f1, fun j h1 h2 => ?_⟩
          rcases (by omega : j ≤ i ∨ j = i + 1) with h | rfl
          · exact f2 j h1 h
          · obtain ⟨_, g4⟩ := hB.2 (i + 1) (by omega) hlt
            have hup := g4 a (by omega) hfit
            rw [f1] at hup
            have hlo := few_mono hB hlt
            rcases (by omega : a = i ∨ a < i) with rfl | h
            · obtain ⟨⟨k, q1, q2, q3⟩, _⟩ := hB.2 (a + 1) (by omega) hlt
              have hka : k = a ∨ k < a := by omega
              rw [f1] at hlo
              rcases hka with rfl | hka
              · omega
              · exfalso
                rcases Nat.eq_zero_or_pos a with h9 | h9
                · omega
                · have := w.pos h9; omega
            · rw [f2 i h (Nat.le_refl _)] at hlo
              omega }
      have := ih (i + 1) a _ _ ht2 hw
      rwa [show i + 1 - a = i - a + 1 by omega] at this
theorem split_law {l : List Blob} (hr : ∀ p ∈ l, blobE p = 0) : Segs l (grF l 0 2 []) 0 ∧ ∀ B, Few l B l.length → (grF l 0 2 []).length = B l.length := gr_law hr l 0 0 2 [] rfl (way_start l)
theorem writeE_fits {l : List Blob} (h : fits l) (hr : ∀ p ∈ l, blobE p = 0) : writeE l = 0 := by
  unfold writeE
  rw [if_neg (by have := h.1; omega), if_neg (by rw [firstE_zero.2 hr]; exact fun h => h rfl), if_neg (by have := h.2; omega)]
end Go.Proofs.Ytkkgmgffkjeklaa.blob
