/-
  file: Write: what it answers, and the walk.
-/
import Derived.Test.YtknclflgghnojaaFileCut
import Derived.Test.YtknclflgghnojaaSlStr3
namespace Go.Proofs.Ytknclflgghnojaa.file
open Go.RowKit kit sl
set_option linter.unusedVariables false
/-- a text written over a part -/
def hit (at' len i : Nat) : Prop := max at' (512 * i) < min (at' + len) (512 * i + 512)
instance (a b c : Nat) : Decidable (hit a b c) := by unfold hit; infer_instance
def byteW (at' : Nat) (text : List UInt8) (s : List UInt8) (i j : Nat) : UInt8 := if at' ≤ 512 * i + j ∧ 512 * i + j < at' + text.length then text.getD (512 * i + j - at') 0 else s.getD j 0
def partW (N at' : Nat) (text : List UInt8) (i : Nat) (s : List UInt8) : List UInt8 := if hit at' text.length i then (List.range (longN N i)).map (byteW at' text s i) else s
def writeF (N at' : Nat) (text : List UInt8) (out : List (List UInt8)) : List (List UInt8) := (List.range out.length).map fun i => partW N at' text i (out.getD i [])
theorem writeF_len (N at' : Nat) (text : List UInt8) (out : List (List UInt8)) : (writeF N at' text out).length = out.length := by simp [writeF]
theorem writeF_get {N at' : Nat} {text : List UInt8} {out : List (List UInt8)} {i : Nat} (h : i < out.length) : (writeF N at' text out).getD i [] = partW N at' text i (out.getD i []) := by
  unfold writeF
  rw [List.getD_eq_getElem?_getD, List.getElem?_map, List.getElem?_range h]
  rfl
theorem lists_ext {a b : List (List UInt8)} (h : a.length = b.length) (h2 : ∀ i, i < a.length → a.getD i [] = b.getD i []) : a = b := by
  apply List.ext_getElem?
  intro i
  rcases Nat.lt_or_ge i a.length with hi | hi
  · have := h2 i hi
    rw [List.getD_eq_getElem?_getD, List.getD_eq_getElem?_getD, List.getElem?_eq_getElem hi, List.getElem?_eq_getElem (by omega)] at this
    rw [List.getElem?_eq_getElem hi, List.getElem?_eq_getElem (by omega)]
    exact congrArg some this
  · rw [List.getElem?_eq_none hi, List.getElem?_eq_none (by omega)]
theorem writeF_nil (N at' : Nat) (out : List (List UInt8)) : writeF N at' [] out = out :=
  lists_ext (writeF_len ..) fun i hi => by
    rw [writeF_len] at hi
    rw [writeF_get hi]
    unfold partW
    rw [if_neg (by unfold hit; simp only [List.length_nil]; omega)]
theorem bytes_ext {a b : List UInt8} (h : a.length = b.length) (h2 : ∀ j, j < a.length → a.getD j 0 = b.getD j 0) : a = b := by
  apply List.ext_getElem?
  intro i
  rcases Nat.lt_or_ge i a.length with hi | hi
  · have := h2 i hi
    rw [List.getD_eq_getElem?_getD, List.getD_eq_getElem?_getD, List.getElem?_eq_getElem hi, List.getElem?_eq_getElem (by omega)] at this
    rw [List.getElem?_eq_getElem hi, List.getElem?_eq_getElem (by omega)]
    exact congrArg some this
  · rw [List.getElem?_eq_none hi, List.getElem?_eq_none (by omega)]
theorem mapRange_getD {n j : Nat} (f : Nat → UInt8) (h : j < n) : ((List.range n).map f).getD j 0 = f j := by
  rw [List.getD_eq_getElem?_getD, List.getElem?_map, List.getElem?_range h]
  rfl
theorem partW_getD {N at' i j : Nat} {text s : List UInt8} (h : j < longN N i) (hj : j < 512) : (partW N at' text i s).getD j 0 = byteW at' text s i j := by
  unfold partW
  split
  · exact mapRange_getD _ h
  · rename_i hh
    unfold byteW
    rw [if_neg]
    intro ⟨h1, h2⟩
    exact hh (by unfold hit; omega)
theorem partW_len {N at' i : Nat} {text s : List UInt8} (h : hit at' text.length i) : (partW N at' text i s).length = longN N i := by
  unfold partW
  rw [if_pos h]
  simp
/-- the part that the code makes -/
def madeL (L k : Nat) (s t : List UInt8) : List UInt8 :=
  let b := (List.replicate L 0).take 0 ++ s ++ (List.replicate L 0).drop (0 + s.length)
  b.take k ++ t ++ b.drop (k + t.length)
theorem getD_app (a b : List UInt8) (j : Nat) : (a ++ b).getD j 0 = if j < a.length then a.getD j 0 else b.getD (j - a.length) 0 := by
  simp only [List.getD_eq_getElem?_getD, List.getElem?_append]
  split <;> rfl
theorem getD_take (a : List UInt8) (k j : Nat) : (a.take k).getD j 0 = if j < k then a.getD j 0 else 0 := by
  simp only [List.getD_eq_getElem?_getD, List.getElem?_take]
  split <;> rfl
theorem getD_drop (a : List UInt8) (k j : Nat) : (a.drop k).getD j 0 = a.getD (k + j) 0 := by
  simp only [List.getD_eq_getElem?_getD, List.getElem?_drop]
theorem getD_rep (L j : Nat) : (List.replicate L (0 : UInt8)).getD j 0 = 0 := by
  simp only [List.getD_eq_getElem?_getD, List.getElem?_replicate]
  split <;> rfl
theorem getD_out {a : List UInt8} {j : Nat} (h : a.length ≤ j) : a.getD j 0 = 0 := by
  rw [List.getD_eq_getElem?_getD, List.getElem?_eq_none h]
  rfl
theorem madeL_len {L k : Nat} {s t : List UInt8} (hs : s.length ≤ L) (ht : k + t.length ≤ L) : (madeL L k s t).length = L := by
  simp only [madeL, List.length_append, List.length_take, List.length_drop, List.length_replicate]
  omega
theorem madeL_getD {L k j : Nat} {s t : List UInt8} (hs : s.length ≤ L) (ht : k + t.length ≤ L) (hj : j < L) : (madeL L k s t).getD j 0 = if k ≤ j ∧ j < k + t.length then t.getD (j - k) 0 else s.getD j 0 := by
  have hb : ∀ j, ((List.replicate L (0 : UInt8)).take 0 ++ s ++ (List.replicate L 0).drop (0 + s.length)).getD j 0 = s.getD j 0 := by
    intro j
    rw [List.take_zero, List.nil_append, getD_app]
    split
    · rfl
    · rw [getD_drop, getD_rep, getD_out (by omega)]
  have hl : ((List.replicate L (0 : UInt8)).take 0 ++ s ++ (List.replicate L 0).drop (0 + s.length)).length = L := by
    simp only [List.length_append, List.length_take, List.length_drop, List.length_replicate]
    omega
  unfold madeL
  dsimp only
  rw [getD_app, getD_app, getD_take, getD_drop, hb, hb]
  simp only [List.length_append, List.length_take, hl]
  by_cases h1 : j < k
  · rw [if_pos (by omega), if_pos (by omega), if_pos h1, if_neg (by omega)]
  · by_cases h2 : j < k + t.length
    · rw [if_pos (by omega), if_neg (by omega), if_pos (by omega), Nat.min_eq_left (by omega)]
    · rw [if_neg (by omega), if_neg (by omega)]
      congr 1
      omega
theorem set_getD {out : List (List UInt8)} {i m : Nat} {b : List UInt8} : (out.set i b).getD m [] = if i = m ∧ m < out.length then b else out.getD m [] := by
  simp only [List.getD_eq_getElem?_getD, List.getElem?_set]
  by_cases h : i = m
  · subst h
    by_cases h2 : i < out.length
    · rw [if_pos rfl, if_pos h2, if_pos ⟨rfl, h2⟩]; rfl
    · rw [if_pos rfl, if_neg h2, if_neg (by omega), List.getElem?_eq_none (by omega)]
  · rw [if_neg h, if_neg (by omega)]
theorem write_step {N at' d cnt i k : Nat} {text s : List UInt8} {out : List (List UInt8)} (hi : i < out.length) (hp : at' + d = 512 * i + k) (hk : k + cnt ≤ longN N i) (hc : 0 < cnt) (hd : d + cnt ≤ text.length) (hs : (writeF N at' (text.take d) out).getD i [] = s) (hsl : s.length ≤ longN N i) :
    (writeF N at' (text.take d) out).set i (madeL (longN N i) k s ((text.drop d).take cnt)) = writeF N at' (text.take (d + cnt)) out := by
  have hl5 := long_le N i
  have ht1 : (text.take d).length = d := by rw [List.length_take]; omega
  have ht2 : (text.take (d + cnt)).length = d + cnt := by rw [List.length_take]; omega
  have ht3 : ((text.drop d).take cnt).length = cnt := by rw [List.length_take, List.length_drop]; omega
  refine lists_ext (by rw [List.length_set, writeF_len, writeF_len]) fun m hm => ?_
  rw [List.length_set, writeF_len] at hm
  rw [set_getD, writeF_len, writeF_get hm, writeF_get hm]
  by_cases h : i = m
  · subst h
    rw [if_pos ⟨rfl, hm⟩]
    have hh : hit at' (text.take (d + cnt)).length i := by rw [ht2]; unfold hit; omega
    refine bytes_ext (by rw [madeL_len hsl (by omega), partW_len hh]) fun j hj => ?_
    rw [madeL_len hsl (by omega)] at hj
    rw [madeL_getD hsl (by omega) hj, partW_getD hj (by omega), ← hs, writeF_get hm, partW_getD hj (by omega)]
    unfold byteW
    rw [ht1, ht2, ht3]
    by_cases h1 : k ≤ j ∧ j < k + cnt
    · rw [if_pos h1, if_pos (by omega), getD_take, getD_drop, getD_take, if_pos (by omega), if_pos (by omega)]
      congr 1
      omega
    · rw [if_neg h1]
      by_cases h2 : at' ≤ 512 * i + j ∧ 512 * i + j < at' + d
      · rw [if_pos h2, if_pos (by omega), getD_take, getD_take, if_pos (by omega), if_pos (by omega)]
      · rw [if_neg h2, if_neg (by omega)]
  · rw [if_neg (by omega)]
    by_cases hh : hit at' (text.take d).length m
    · have hh2 : hit at' (text.take (d + cnt)).length m := by
        rw [ht1] at hh
        rw [ht2]
        unfold hit at *
        omega
      refine bytes_ext (by rw [partW_len hh, partW_len hh2]) fun j hj => ?_
      rw [partW_len hh] at hj
      have hl6 := long_le N m
      rw [partW_getD hj (by omega), partW_getD hj (by omega)]
      unfold byteW
      rw [ht1, ht2]
      by_cases h2 : at' ≤ 512 * m + j ∧ 512 * m + j < at' + d
      · rw [if_pos h2, if_pos (by omega), getD_take, getD_take, if_pos (by omega), if_pos (by omega)]
      · rw [if_neg h2, if_neg (by omega)]
    · have hh2 : ¬ hit at' (text.take (d + cnt)).length m := by
        rw [ht1] at hh
        rw [ht2]
        unfold hit at *
        omega
      unfold partW
      rw [if_neg hh, if_neg hh2]
end Go.Proofs.Ytknclflgghnojaa.file
