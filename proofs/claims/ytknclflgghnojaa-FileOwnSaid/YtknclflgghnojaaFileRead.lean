/-
  file: the bytes of a file: what is read of it (no program here).
-/
import Derived.Test.YtknclflgghnojaaFileSwap
namespace Go.Proofs.Ytknclflgghnojaa.file
open Go.RowKit kit sl
set_option linter.unusedVariables false
/-- byte j of a file; its bytes; what is read -/
def byteF (ps : List (List UInt8)) (j : Nat) : UInt8 := (ps.getD (j / 512) []).getD (j % 512) 0
def bytesF (n : Nat) (ps : List (List UInt8)) : List UInt8 := (List.range n).map (byteF ps)
def readF (n : Nat) (ps : List (List UInt8)) (at' cnt : Nat) : List UInt8 := (List.range (min cnt (n - at'))).map fun j => byteF ps (at' + j)
theorem bytesF_len (n : Nat) (ps : List (List UInt8)) : (bytesF n ps).length = n := by simp [bytesF]
theorem readF_len (n : Nat) (ps : List (List UInt8)) (at' cnt : Nat) : (readF n ps at' cnt).length = min cnt (n - at') := by simp [readF]
/-- a part, holes filled -/
def fillL (k : Nat) (s : List UInt8) : List UInt8 := if s = [] then List.replicate k 0 else s
theorem bytes_step {n k : Nat} {ps : List (List UInt8)} {s : List UInt8} (hg : GoodF n ps) (hs : ps[k]? = some s) : bytesF (min n (512 * k)) ps ++ fillL (longN n k) s = bytesF (min n (512 * (k + 1))) ps := by
  have hk : k < partsN n := by
    have := (List.getElem?_eq_some_iff.1 hs).1
    rwa [hg.2.1] at this
  have h5 := parts_lt hk
  have hL : (fillL (longN n k) s).length = longN n k := by
    unfold fillL
    split
    · simp
    · exact hg.2.2 k s hs ‹_›
  have hlen : min n (512 * k) + longN n k = min n (512 * (k + 1)) := by unfold longN; omega
  refine bytes_ext (by rw [List.length_append, bytesF_len, bytesF_len, hL, hlen]) fun j hj => ?_
  rw [List.length_append, bytesF_len, hL, hlen] at hj
  rw [getD_app, bytesF_len]
  show _ = (List.map (byteF ps) (List.range _)).getD j 0
  rw [mapRange_getD _ hj]
  split
  · exact mapRange_getD _ ‹_›
  · rename_i hge
    have e1 : j / 512 = k := by omega
    have e2 : j - min n (512 * k) = j % 512 := by omega
    unfold byteF
    rw [e1, e2, List.getD_eq_getElem?_getD (l := ps), hs, Option.getD_some]
    unfold fillL
    split
    · rw [getD_rep, ‹s = []›]; rfl
    · rfl
theorem read_slice {n at' cnt : Nat} (ps : List (List UInt8)) (h : at' ≤ n) : ((bytesF n ps).take (at' + min cnt (n - at'))).drop at' = readF n ps at' cnt := by
  refine bytes_ext ?_ fun j hj => ?_
  · rw [List.length_drop, List.length_take, bytesF_len, readF_len]; omega
  · rw [List.length_drop, List.length_take, bytesF_len] at hj
    rw [getD_drop, getD_take, if_pos (by omega)]
    show (List.map (byteF ps) (List.range n)).getD _ 0 = (List.map (fun j => byteF ps (at' + j)) (List.range _)).getD j 0
    rw [mapRange_getD _ (by omega), mapRange_getD _ (by omega)]
theorem byteF_out {n j : Nat} {ps : List (List UInt8)} (hg : GoodF n ps) (h : n ≤ j) : byteF ps j = 0 := by
  unfold byteF
  rcases Nat.lt_or_ge (j / 512) (partsN n) with hi | hi
  · rcases good_at hg hi with e | e
    · rw [e]; rfl
    · refine getD_out ?_
      rw [e]
      unfold longN
      omega
  · rw [List.getD_eq_getElem?_getD (l := ps), List.getElem?_eq_none (by rw [hg.2.1]; exact hi)]
    rfl
theorem byteF_sized {n m j : Nat} {ps : List (List UInt8)} (hg : GoodF n ps) (h : j < m) : byteF (sizedF m ps) j = byteF ps j := by
  have hi : j / 512 < partsN m := by unfold partsN; omega
  have hL : j % 512 < longN m (j / 512) := by unfold longN; omega
  unfold byteF
  rw [sizedF_get hi]
  generalize ps.getD (j / 512) [] = s
  unfold fitL
  split
  · rw [‹s = []›]
  · split
    · rw [getD_take, if_pos hL]
    · rw [getD_app]
      split
      · rfl
      · rw [getD_rep, getD_out (by omega)]
/-- what was written is there, all else is as it was -/
theorem byteF_write {n at' j : Nat} {text : List UInt8} {ps : List (List UInt8)} (hg : GoodF n ps) (h : j < sizeW n at' text) : byteF (fileW n at' text ps) j = if at' ≤ j ∧ j < at' + text.length then text.getD (j - at') 0 else byteF ps j := by
  have hi : j / 512 < partsN (sizeW n at' text) := by unfold partsN; omega
  have hL : j % 512 < longN (sizeW n at' text) (j / 512) := by unfold longN; omega
  have h0 := byteF_sized hg h
  have e : 512 * (j / 512) + j % 512 = j := Nat.div_add_mod j 512
  unfold byteF fileW
  unfold byteF at h0
  rw [writeF_get (by rw [sizedF_len]; exact hi), partW_getD hL (Nat.mod_lt _ (by decide))]
  unfold byteW
  rw [e, h0]
theorem read_written {n at' : Nat} {text : List UInt8} {ps : List (List UInt8)} (hg : GoodF n ps) (hne : text ≠ []) : readF (sizeW n at' text) (fileW n at' text ps) at' text.length = text := by
  have hs : sizeW n at' text = max n (at' + text.length) := by unfold sizeW; rw [if_neg hne]
  refine bytes_ext (by rw [readF_len]; omega) fun j hj => ?_
  rw [readF_len] at hj
  show (List.map _ (List.range _)).getD j 0 = _
  rw [mapRange_getD _ hj, byteF_write hg (by omega), if_pos (by omega), Nat.add_sub_cancel_left]
theorem read_one {n k : Nat} (ps : List (List UInt8)) (h : k < n) : readF n ps k 1 = [byteF ps k] := by
  have : min 1 (n - k) = 1 := by omega
  unfold readF
  rw [this]
  rfl
theorem read_none {n k cnt : Nat} (ps : List (List UInt8)) (h : n ≤ k) : readF n ps k cnt = [] := by
  have : min cnt (n - k) = 0 := by omega
  unfold readF
  rw [this]
  rfl
/-- two files of the same bytes -/
theorem readF_same {n at' cnt : Nat} {ps qs : List (List UInt8)} (h : ∀ j, j < n → byteF ps j = byteF qs j) : readF n ps at' cnt = readF n qs at' cnt := by
  unfold readF
  refine List.map_congr_left fun j hj => ?_
  rw [List.mem_range] at hj
  exact h _ (by omega)
end Go.Proofs.Ytknclflgghnojaa.file
