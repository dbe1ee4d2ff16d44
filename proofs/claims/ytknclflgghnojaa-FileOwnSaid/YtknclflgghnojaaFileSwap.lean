/-
  file: two texts that do not overlap: the plain law.
-/
import Derived.Test.YtknclflgghnojaaFileWalk
namespace Go.Proofs.Ytknclflgghnojaa.file
open Go.RowKit kit sl
set_option linter.unusedVariables false
theorem fitL_len2 {K : Nat} {s : List UInt8} (h : s ≠ []) : (fitL K s).length = K := by
  unfold fitL
  rw [if_neg h]
  split
  · rw [List.length_take]; omega
  · rw [List.length_append, List.length_replicate]; omega
theorem fitL_getD {K j : Nat} {s : List UInt8} (h : s.length ≤ K) : (fitL K s).getD j 0 = s.getD j 0 := by
  unfold fitL
  split
  · rename_i h0; rw [h0]
  · split
    · rw [List.take_of_length_le h]
    · rw [getD_app]
      split
      · rfl
      · rw [getD_rep, getD_out (by omega)]
theorem fitL_fitL {K1 K2 : Nat} {s : List UInt8} (h : s.length ≤ K1) (h2 : K1 ≤ K2) (h0 : 0 < K1) : fitL K2 (fitL K1 s) = fitL K2 s := by
  by_cases hs : s = []
  · rw [hs]; rfl
  · have h3 : fitL K1 s ≠ [] := fun e => by
      have := fitL_len2 (K := K1) hs
      rw [e, List.length_nil] at this
      omega
    refine bytes_ext (by rw [fitL_len2 h3, fitL_len2 hs]) fun j hj => ?_
    rw [fitL_getD (by rw [fitL_len2 hs]; exact h2), fitL_getD h, fitL_getD (by omega)]
theorem good_short {n N i : Nat} {ps : List (List UInt8)} (hg : GoodF n ps) (h : n ≤ N) : (ps.getD i []).length ≤ longN N i := by
  rcases Nat.lt_or_ge i (partsN n) with hi | hi
  · rcases good_at hg hi with e | e
    · rw [e]; exact Nat.zero_le _
    · rw [e]; exact long_mono i h
  · rw [List.getD_eq_getElem?_getD, List.getElem?_eq_none (by rw [hg.2.1]; exact hi)]
    exact Nat.zero_le _
theorem sized_write {n N1 N2 at' : Nat} {text : List UInt8} {ps : List (List UInt8)} (hg : GoodF n ps) (h1 : n ≤ N1) (h2 : N1 ≤ N2) (ht : text = [] ∨ at' + text.length ≤ N1) : sizedF N2 (writeF N1 at' text (sizedF N1 ps)) = writeF N2 at' text (sizedF N2 ps) := by
  refine lists_ext (by rw [sizedF_len, writeF_len, sizedF_len]) fun i hi => ?_
  rw [sizedF_len] at hi
  rw [sizedF_get hi, writeF_get (N := N2) (out := sizedF N2 ps) (by rw [sizedF_len]; exact hi), sizedF_get hi]
  have hs1 := good_short (i := i) hg h1
  have hK := long_mono i h2
  have hl5 := long_le N2 i
  rcases Nat.lt_or_ge i (partsN N1) with h3 | h3
  · rw [writeF_get (by rw [sizedF_len]; exact h3), sizedF_get h3]
    have hp := long_pos h3
    generalize ps.getD i [] = s at *
    by_cases hh : hit at' text.length i
    · have hne : partW N1 at' text i (fitL (longN N1 i) s) ≠ [] := fun e => by
        have := partW_len (N := N1) (s := fitL (longN N1 i) s) hh
        rw [e, List.length_nil] at this
        omega
      refine bytes_ext (by rw [fitL_len2 hne, partW_len hh]) fun j hj => ?_
      rw [fitL_len2 hne] at hj
      rw [fitL_getD (by rw [partW_len hh]; exact hK), partW_getD hj (by omega)]
      by_cases h4 : j < longN N1 i
      · rw [partW_getD h4 (by omega)]
        unfold byteW
        rw [fitL_getD hs1, fitL_getD (by omega)]
      · rw [getD_out (by rw [partW_len hh]; omega)]
        unfold byteW
        have h6 : longN N1 i = min 512 (N1 - 512 * i) := rfl
        have h7 : text ≠ [] := fun e => by rw [e] at hh; unfold hit at hh; simp only [List.length_nil] at hh; omega
        have h8 := ht.resolve_left h7
        rw [if_neg (by omega), fitL_getD (by omega), getD_out (by omega)]
    · unfold partW
      rw [if_neg hh, if_neg hh, fitL_fitL hs1 hK hp]
  · have e1 : (writeF N1 at' text (sizedF N1 ps)).getD i [] = [] := by
      rw [List.getD_eq_getElem?_getD, List.getElem?_eq_none (by rw [writeF_len, sizedF_len]; exact h3)]
      rfl
    have h4 : N1 ≤ 512 * i := by unfold partsN at h3; omega
    have e2 : ps.getD i [] = [] := by
      have h6 : longN N1 i = min 512 (N1 - 512 * i) := rfl
      exact List.eq_nil_of_length_eq_zero (by omega)
    rw [e1, e2, fitL_nil]
    unfold partW
    rw [if_neg]
    intro hh
    rcases ht with e | e
    · rw [e] at hh; unfold hit at hh; simp only [List.length_nil] at hh; omega
    · unfold hit at hh; omega
theorem write_comm {N a b : Nat} {t u : List UInt8} {out : List (List UInt8)} (h : t = [] ∨ u = [] ∨ b + u.length ≤ a ∨ a + t.length ≤ b) : writeF N a t (writeF N b u out) = writeF N b u (writeF N a t out) := by
  have hx : ∀ p, ¬ ((a ≤ p ∧ p < a + t.length) ∧ (b ≤ p ∧ p < b + u.length)) := by
    intro p hp
    rcases h with h | h | h | h
    · rw [h] at hp; simp only [List.length_nil] at hp; omega
    · rw [h] at hp; simp only [List.length_nil] at hp; omega
    · omega
    · omega
  refine lists_ext (by simp only [writeF_len]) fun i hi => ?_
  simp only [writeF_len] at hi
  rw [writeF_get (by rw [writeF_len]; exact hi), writeF_get hi, writeF_get (by rw [writeF_len]; exact hi), writeF_get hi]
  generalize out.getD i [] = s
  have hl5 := long_le N i
  by_cases h1 : hit a t.length i
  · by_cases h2 : hit b u.length i
    · refine bytes_ext (by rw [partW_len h1, partW_len h2]) fun j hj => ?_
      rw [partW_len h1] at hj
      rw [partW_getD hj (by omega), partW_getD hj (by omega)]
      have e1 : byteW a t (partW N b u i s) i j = if a ≤ 512 * i + j ∧ 512 * i + j < a + t.length then t.getD (512 * i + j - a) 0 else byteW b u s i j := by
        unfold byteW
        rw [partW_getD hj (by omega)]
        rfl
      have e2 : byteW b u (partW N a t i s) i j = if b ≤ 512 * i + j ∧ 512 * i + j < b + u.length then u.getD (512 * i + j - b) 0 else byteW a t s i j := by
        unfold byteW
        rw [partW_getD hj (by omega)]
        rfl
      rw [e1, e2]
      unfold byteW
      by_cases h3 : a ≤ 512 * i + j ∧ 512 * i + j < a + t.length
      · rw [if_pos h3, if_neg (fun h4 => hx _ ⟨h3, h4⟩), if_pos h3]
      · rw [if_neg h3, if_neg h3]
    · have e : ∀ s, partW N b u i s = s := fun s => by unfold partW; rw [if_neg h2]
      rw [e, e]
  · have e : ∀ s, partW N a t i s = s := fun s => by unfold partW; rw [if_neg h1]
    rw [e, e]
def sizeW (n at' : Nat) (text : List UInt8) : Nat := if text = [] then n else max n (at' + text.length)
/-- what Write leaves -/
def fileW (n at' : Nat) (text : List UInt8) (ps : List (List UInt8)) : List (List UInt8) := writeF (sizeW n at' text) at' text (sizedF (sizeW n at' text) ps)
theorem fileW_len (n at' : Nat) (text : List UInt8) (ps : List (List UInt8)) : (fileW n at' text ps).length = partsN (sizeW n at' text) := by
  unfold fileW
  rw [writeF_len, sizedF_len]
theorem swap_size (n a b : Nat) (t u : List UInt8) : sizeW (sizeW n a t) b u = sizeW (sizeW n b u) a t := by
  unfold sizeW
  by_cases h1 : t = []
  · by_cases h2 : u = []
    · simp only [h1, h2, if_true]
    · simp only [h1, h2, if_true, if_false]
  · by_cases h2 : u = []
    · simp only [h1, h2, if_true, if_false]
    · simp only [h1, h2, if_false]
      omega
theorem swap_file {n a b : Nat} {t u : List UInt8} {ps : List (List UInt8)} (hg : GoodF n ps) (h : t = [] ∨ u = [] ∨ b + u.length ≤ a ∨ a + t.length ≤ b) : fileW (sizeW n a t) b u (fileW n a t ps) = fileW (sizeW n b u) a t (fileW n b u ps) := by
  have l1 : ∀ n a t, n ≤ sizeW n a t := fun n a t => by unfold sizeW; split <;> omega
  have l2 : ∀ n a t, t = [] ∨ a + t.length ≤ sizeW n a t := fun n a t => by
    unfold sizeW
    by_cases h : t = []
    · exact .inl h
    · rw [if_neg h]; exact .inr (by omega)
  have e1 : fileW (sizeW n a t) b u (fileW n a t ps) = writeF (sizeW (sizeW n a t) b u) b u (writeF (sizeW (sizeW n a t) b u) a t (sizedF (sizeW (sizeW n a t) b u) ps)) := by
    unfold fileW
    rw [sized_write hg (l1 _ _ _) (l1 _ _ _) (l2 _ _ _)]
  have e2 : fileW (sizeW n b u) a t (fileW n b u ps) = writeF (sizeW (sizeW n b u) a t) a t (writeF (sizeW (sizeW n b u) a t) b u (sizedF (sizeW (sizeW n b u) a t) ps)) := by
    unfold fileW
    rw [sized_write hg (l1 _ _ _) (l1 _ _ _) (l2 _ _ _)]
  rw [e1, e2, swap_size n a b t u, write_comm (by exact h.elim (fun h => .inr (.inl h)) fun h => h.elim .inl fun h => h.elim (fun h => .inr (.inr (.inr h))) fun h => .inr (.inr (.inl h)))]
theorem fileW_good {n at' : Nat} {text : List UInt8} {ps : List (List UInt8)} (hg : GoodF n ps) (h : text = [] ∨ at' + text.length ≤ 4096) : GoodF (sizeW n at' text) (fileW n at' text ps) := by
  refine write_good (sized_good ps ?_)
  have := hg.1
  unfold sizeW
  split
  · exact this
  · have := h.resolve_left ‹_›; omega
/-- Write, where it takes what it is given -/
theorem write_all (q : Option Addr) (c : Nat) (n : Nat) (ps : List (List UInt8)) (at' : Nat) (text : List UInt8) (hg : GoodF n ps) (h : text = [] ∨ at' + text.length ≤ 4096) :
    Ct Try.prog 14 [.agg #[.int .i64 (n : Int), .slice q ps.length c], .int .i64 (at' : Int), .string (str text)] [sl 1 (.slice q ps.length c) (ps.map fT)] fun v H' => ∃ qa, v = .tuple #[.agg #[.int .i64 ((sizeW n at' text : Nat) : Int), .slice qa (partsN (sizeW n at' text)) (partsN (sizeW n at' text))], .int .i64 0] ∧ H' = [own (.slice qa (partsN (sizeW n at' text)) (partsN (sizeW n at' text))) 9 1 (partsN (sizeW n at' text)) (flat fT (fileW n at' text ps))] := by
  by_cases ht : text = []
  · subst ht
    have h1 := write_nil q c n ps (at' : Int) hg (by omega)
    have e : sizeW n at' [] = n := by unfold sizeW; rw [if_pos rfl]
    unfold fileW
    rw [e, writeF_nil, sized_self hg]
    exact h1
  · have h1 := write_ok q c n ps at' text hg ht (h.resolve_left ht)
    have e : sizeW n at' text = max n (at' + text.length) := by unfold sizeW; rw [if_neg ht]
    unfold fileW
    rw [e]
    exact h1
theorem writeE_zero {n : Int} {ps : List (List UInt8)} {at' : Int} {text : List UInt8} (h : writeE n ps at' text = 0) : ∃ m k : Nat, n = (m : Int) ∧ at' = (k : Int) ∧ GoodF m ps ∧ (text = [] ∨ k + text.length ≤ 4096) := by
  unfold writeE at h
  by_cases h0 : checkF n ps = 0
  · rw [if_neg (by simpa using h0)] at h
    obtain ⟨m, rfl, hg⟩ := checkF_zero h0
    by_cases h1 : at' < 0
    · rw [if_pos h1] at h; cases h
    · rw [if_neg h1] at h
      refine ⟨m, at'.toNat, rfl, by omega, hg, ?_⟩
      by_cases h2 : text = []
      · exact .inl h2
      · rw [if_neg h2] at h
        split at h
        · cases h
        · split at h
          · cases h
          · exact .inr (by omega)
  · rw [if_pos h0] at h
    exact absurd h h0
end Go.Proofs.Ytknclflgghnojaa.file
