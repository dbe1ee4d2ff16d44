/-
  disk: what is read, synced and lost, with no program in sight.
-/
import Derived.Test.YtbgmfkhfbjgekaaDisk4
namespace Go.Proofs.Ytbgmfkhfbjgekaa.disk
open Go.RowKit kit sl
set_option linter.unusedVariables false

theorem now_cons {cs : List ByteArray} {ps : List (Int × ByteArray)} {p : Int × ByteArray} {k : Nat} (h0 : 0 ≤ p.1) (h1 : p.1 < cs.length) : nowD cs (p :: ps) k = nowD (cs.set p.1.toNat p.2) ps k := by
  obtain ⟨i, hi⟩ : ∃ i : Nat, p.1 = (i : Int) := ⟨p.1.toNat, by omega⟩
  obtain ⟨a, t⟩ := p
  simp only at hi h0 h1
  subst hi
  unfold nowD
  simp only [List.reverse_cons, List.find?_append, Int.toNat_natCast]
  cases ps.reverse.find? (fun p => p.1 == (k : Int)) with
  | some q => simp
  | none =>
    simp only [Option.none_or]
    by_cases e : i = k
    · subst e
      have : i < cs.length := by omega
      simp [List.find?, this]
    · have e2 : ((i : Int) == (k : Int)) = false := by simp; omega
      simp [List.find?, e2, e]
theorem now_land {ps : List (Int × ByteArray)} {k : Nat} : ∀ (i : Nat) (cs : List ByteArray), (∀ p ∈ ps, 0 ≤ p.1 ∧ p.1 < cs.length) → nowD (land (fun _ => true) i cs ps) [] k = nowD cs ps k := by
  induction ps with
  | nil => intro i cs _; rfl
  | cons p ps ih =>
    intro i cs h
    have hp := h p List.mem_cons_self
    rw [now_cons hp.1 hp.2]
    simp only [land, if_true]
    exact ih (i + 1) _ fun q hq => by rw [List.length_set]; exact h q (List.mem_cons_of_mem _ hq)
theorem now_put {cs : List ByteArray} {ps : List (Int × ByteArray)} {a b : Int} {t : ByteArray} : nowD cs (ps ++ [(a, t)]) b = if a = b then t else nowD cs ps b := by
  unfold nowD
  simp only [List.reverse_append, List.reverse_cons, List.reverse_nil, List.nil_append, List.cons_append, List.find?_cons]
  by_cases e : a = b
  · simp [e]
  · have e2 : (a == b) = false := by simp [e]
    simp [e, e2]
theorem land_mem (K : Nat → Bool) {ps : List (Int × ByteArray)} {k : Nat} {s : ByteArray} : ∀ (i : Nat) (cs : List ByteArray), (∀ p ∈ ps, 0 ≤ p.1) → (land K i cs ps)[k]? = some s → cs[k]? = some s ∨ ((k : Int), s) ∈ ps := by
  induction ps with
  | nil => intro i cs _ h; exact .inl h
  | cons p ps ih =>
    intro i cs h0 h
    simp only [land] at h
    have h1 := ih (i + 1) _ (fun q hq => h0 q (List.mem_cons_of_mem _ hq)) h
    rcases h1 with h1 | h1
    · split at h1
      · by_cases e : p.1.toNat = k
        · rw [e] at h1
          obtain ⟨hl, hx⟩ := List.getElem?_eq_some_iff.1 h1
          rw [List.getElem_set_self] at hx
          right
          have e3 : ((k : Int), s) = p := by
            have := h0 p List.mem_cons_self
            rw [← hx]
            refine Prod.ext ?_ rfl
            show (k : Int) = p.1
            omega
          rw [e3]
          exact List.mem_cons_self
        · rw [List.getElem?_set_ne e] at h1
          exact .inl h1
      · exact .inl h1
    · exact .inr (List.mem_cons_of_mem _ h1)
theorem land_none (ps : List (Int × ByteArray)) : ∀ (i : Nat) (cs : List ByteArray), land (fun _ => false) i cs ps = cs := by
  induction ps with
  | nil => intro i cs; rfl
  | cons p ps ih => intro i cs; simp only [land]; exact ih _ _
theorem land_congr {K K' : Nat → Bool} {ps : List (Int × ByteArray)} : ∀ (i : Nat) (cs : List ByteArray), (∀ j, j < ps.length → K (i + j) = K' (i + j)) → land K i cs ps = land K' i cs ps := by
  induction ps with
  | nil => intro i cs _; rfl
  | cons p ps ih =>
    intro i cs h
    simp only [land]
    have h0 := h 0 (by simp)
    rw [Nat.add_zero] at h0
    rw [h0]
    exact ih (i + 1) _ fun j hj => by
      have := h (j + 1) (by simp; omega)
      rw [show i + 1 + j = i + (j + 1) from by omega]
      exact this
theorem land_good {cs : List ByteArray} {ps : List (Int × ByteArray)} (K : Nat → Bool) (h : Good cs ps) : Good (land K 0 cs ps) [] := by
  have hl := land_len K ps 0 cs
  refine ⟨by rw [hl]; exact h.n0, by rw [hl]; exact h.n1, fun s hs => ?_, (fun p hp => by cases hp), by simp⟩
  obtain ⟨k, hk, rfl⟩ := List.getElem_of_mem hs
  rcases land_mem K 0 cs (fun p hp => (good_in h p hp).1) (List.getElem?_eq_getElem hk) with h1 | h1
  · exact h.cells _ (List.mem_of_getElem? h1)
  · exact (put_zero.1 (h.puts _ h1)).2.2
theorem good_more {cs : List ByteArray} {ps : List (Int × ByteArray)} {a : Int} {t : ByteArray} (h : writeE cs ps a t = 0) : Good cs ps ∧ putErr cs.length a t = 0 ∧ Good cs (ps ++ [(a, t)]) := by
  unfold writeE at h
  split at h
  · rename_i h1; exact absurd h h1
  · rename_i h1
    split at h
    · rename_i h2; exact absurd h h2
    · rename_i h2
      split at h
      · cases h
      · rename_i h3
        have hg := good_of (by simpa using h1)
        have h2' : putErr cs.length a t = 0 := by simpa using h2
        refine ⟨hg, h2', hg.n0, hg.n1, hg.cells, fun p hp => ?_, by have := hg.wait; simp; omega⟩
        rcases List.mem_append.1 hp with hp | hp
        · exact hg.puts p hp
        · rw [List.mem_singleton.1 hp]; exact h2'
end Go.Proofs.Ytbgmfkhfbjgekaa.disk
