/-
  seal: what is sealed is opened as it was, what is opened is sealed as just that text: the plain law.
-/
import Derived.Test.YtcbpeampjhegcaaSeal
import Derived.Test.YtcbpeampjhegcaaFixLaw
namespace Go.Proofs.Ytcbpeampjhegcaa.seal
open Go.RowKit kit sl Go.Proofs.Ytcbpeampjhegcaa.fix Go.Proofs.Ytcbpeampjhegcaa.fixl Go.Proofs.Ytcbpeampjhegcaa.sum
set_option linter.unusedVariables false
theorem sealE_zero {k n : Int} {m : Nat} (h : sealE k n m = 0) : (k = 1 ∨ k = 2) ∧ 0 ≤ n ∧ n ≤ 2147483647 ∧ m ≤ 1000 := by
  unfold sealE at h
  split at h
  · cases h
  · split at h
    · cases h
    · omega
theorem sealE_of {k n : Int} {m : Nat} (h : (k = 1 ∨ k = 2) ∧ 0 ≤ n ∧ n ≤ 2147483647 ∧ m ≤ 1000) : sealE k n m = 0 := by
  unfold sealE
  rw [if_neg (by omega), if_neg (by omega)]
theorem four_len (c : Int) : (four c).length = 4 := rfl
theorem sealB_len (k n : Int) (b : List UInt8) : (sealB k n b).length = 11 + b.length := by
  simp [sealB, bodyB_len, four_len]; omega
theorem cut_app (a b c : List UInt8) (i j : Nat) (hi : a.length = i) (hj : i + b.length = j) : cutB (a ++ (b ++ c)) i j = b := by
  unfold cutB
  rw [← hi, List.drop_left, show j - a.length = b.length from by omega, List.take_left]
theorem open_seal (k n : Int) (b : List UInt8) (h : sealE k n b.length = 0) : openE (sealB k n b) = 0 ∧ openK (sealB k n b) = k ∧ openN (sealB k n b) = n ∧ openB (sealB k n b) = b := by
  obtain ⟨hk, h1, h2, h3⟩ := sealE_zero h
  have hl := sealB_len k n b
  have hl4 : (sealB k n b).length - 4 = 7 + b.length := by omega
  have hkn : k.toNat < 256 := by omega
  have f1 := fix_one k.toNat hkn
  have e : sealB k n b = [UInt8.ofNat k.toNat] ++ (fixB n.toNat 4 ++ (fixB b.length 2 ++ (b ++ four (sumB (bodyB k n b))))) := by
    unfold sealB
    rw [bodyB, f1]
    simp
  have c1 : cutB (sealB k n b) 1 5 = fixB n.toNat 4 := by rw [e]; exact cut_app _ _ _ _ _ rfl (by rw [fixB_len])
  have c2 : cutB (sealB k n b) 5 7 = fixB b.length 2 := by
    rw [e, ← List.append_assoc]
    exact cut_app _ _ _ _ _ (by simp [fixB_len]) (by rw [fixB_len])
  have c3 : cutB (sealB k n b) 7 (7 + b.length) = b := by
    rw [e, ← List.append_assoc, ← List.append_assoc]
    exact cut_app _ _ _ _ _ (by simp [fixB_len]) rfl
  have hK : openK (sealB k n b) = k := by
    unfold openK
    rw [e]
    simp
    omega
  have hN : openN (sealB k n b) = n := by
    unfold openN
    rw [c1, unfix_fix]
    omega
  have hB : openB (sealB k n b) = b := by
    unfold openB
    rw [hl4, c3]
  have t1 : (sealB k n b).take (7 + b.length) = bodyB k n b := by
    unfold sealB
    rw [← bodyB_len k n b, List.take_left]
  have t2 : (sealB k n b).drop (7 + b.length) = four (sumB (bodyB k n b)) := by
    unfold sealB
    rw [← bodyB_len k n b, List.drop_left]
  refine ⟨?_, hK, hN, hB⟩
  have hK2 : (((sealB k n b).getD 0 0).toNat : Int) = k := hK
  have hN2 : (unfixN (cutB (sealB k n b) 1 5) : Int) = n := hN
  have hu : unfixN (fixB b.length 2) = b.length := by rw [unfix_fix]; omega
  unfold openE
  rw [if_neg (by omega), if_neg (by omega), hl4, t1, t2, if_neg (by simp), hK2, hN2, c2, c3, hu, if_neg]
  intro hh
  rcases hh with hh | hh
  · omega
  · exact hh h
theorem openE_zero {l : List UInt8} (h : openE l = 0) : 11 ≤ l.length ∧ l.length ≤ 1011 ∧ l.drop (l.length - 4) = four (sumB (l.take (l.length - 4))) ∧ (unfixN (cutB l 5 7) : Int) = ((l.length - 4 : Nat) : Int) - 7 ∧ sealE (openK l) (openN l) (openB l).length = 0 := by
  unfold openE at h
  split at h
  · cases h
  · split at h
    · cases h
    · split at h
      · cases h
      · split at h
        · cases h
        · rename_i h1 h2 h3 h4
          simp only [not_or, Decidable.not_not, ne_eq] at h3 h4
          exact ⟨by omega, by omega, h3, h4.1, h4.2⟩
theorem cut_split (l : List UInt8) (i j : Nat) (h : i ≤ j) : l.drop i = cutB l i j ++ l.drop j := by
  unfold cutB
  conv => lhs; rw [← List.take_append_drop (j - i) (l.drop i)]
  rw [List.drop_drop]
  congr 2
  omega
theorem seal_open (l : List UInt8) (h : openE l = 0) : sealE (openK l) (openN l) (openB l).length = 0 ∧ sealB (openK l) (openN l) (openB l) = l := by
  obtain ⟨h1, h2, h3, h4, h5⟩ := openE_zero h
  refine ⟨h5, ?_⟩
  obtain ⟨b0, hb0⟩ : ∃ b0, l[0]? = some b0 := ⟨_, List.getElem?_eq_getElem (by omega)⟩
  have hK : openK l = (b0.toNat : Int) := by unfold openK; rw [List.getD_eq_getElem?_getD, hb0]; rfl
  have l1 : (cutB l 1 5).length = 4 := by unfold cutB; rw [List.length_take, List.length_drop]; omega
  have l2 : (cutB l 5 7).length = 2 := by unfold cutB; rw [List.length_take, List.length_drop]; omega
  have l3 : (openB l).length = l.length - 11 := by unfold openB cutB; rw [List.length_take, List.length_drop]; omega
  have f1 : fixB (openK l).toNat 1 = [b0] := by rw [hK, Int.toNat_natCast, fix_byte]
  have f2 : fixB (openN l).toNat 4 = cutB l 1 5 := by
    unfold openN
    rw [Int.toNat_natCast, ← l1, fix_unfix]
  have hlen : unfixN (cutB l 5 7) = l.length - 11 := by omega
  have f3 : fixB (openB l).length 2 = cutB l 5 7 := by
    rw [l3, ← hlen, ← l2, fix_unfix]
  have hbody : bodyB (openK l) (openN l) (openB l) = l.take (l.length - 4) := by
    unfold bodyB
    rw [f1, f2, f3]
    have e0 : l = [b0] ++ l.drop 1 := by
      cases l with
      | nil => simp at hb0
      | cons a t => simp at hb0; subst hb0; rfl
    have e1 : l = ([b0] ++ cutB l 1 5 ++ cutB l 5 7 ++ openB l) ++ l.drop (l.length - 4) := by
      conv => lhs; rw [e0, cut_split l 1 5 (by decide), cut_split l 5 7 (by decide), cut_split l 7 (l.length - 4) (by omega)]
      simp [openB]
    have e2 : ([b0] ++ cutB l 1 5 ++ cutB l 5 7 ++ openB l).length = l.length - 4 := by simp [l1, l2, l3]; omega
    rw [← e2]
    have h9 := congrArg (List.take ([b0] ++ cutB l 1 5 ++ cutB l 5 7 ++ openB l).length) e1
    rw [List.take_left] at h9
    exact h9.symm
  unfold sealB
  rw [hbody, ← h3, List.take_append_drop]
theorem openV_ok {l : List UInt8} (h : openE l = 0) : openV l = .tuple #[.int .i64 (openK l), .int .i64 (openN l), .string (str (openB l)), .int .i64 0] := by unfold openV; rw [if_pos h]
theorem openV_no {l : List UInt8} (h : openE l ≠ 0) : openV l = .tuple #[.int .i64 0, .int .i64 0, .string (str []), .int .i64 (openE l)] := by unfold openV; rw [if_neg h]
theorem sealS_ok {k n : Int} {b : List UInt8} (h : sealE k n b.length = 0) : sealS k n b = sealB k n b := by unfold sealS; rw [if_pos h]
theorem sealS_no {k n : Int} {b : List UInt8} (h : sealE k n b.length ≠ 0) : sealS k n b = [] := by unfold sealS; rw [if_neg h]
end Go.Proofs.Ytcbpeampjhegcaa.seal
