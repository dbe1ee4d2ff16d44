/-
  blobs: what is written is read as it was, what is read is written as just that text: the plain law.
-/
import Derived.Test.YtcbpeampjhegcaaBlobRead
namespace Go.Proofs.Ytcbpeampjhegcaa.blob
open Go.RowKit kit sl Go.Proofs.Ytcbpeampjhegcaa.fix Go.Proofs.Ytcbpeampjhegcaa.fixl Go.Proofs.Ytcbpeampjhegcaa.put Go.Proofs.Ytcbpeampjhegcaa.get
set_option linter.unusedVariables false
theorem one_parts (p : Blob) (h : blobE p = 0) (r : List UInt8) :
    ¬ (oneB p ++ r).length < 3 ∧ getB ((oneB p ++ r).drop 3) = (p.2.2.2.length, (putB p.2.2.2.length).length, 0) ∧
    ¬ (oneB p ++ r).length < 3 + (putB p.2.2.2.length).length + p.2.2.2.length ∧
    (oneB p ++ r)[0]? = some (UInt8.ofNat p.1.toNat) ∧ (oneB p ++ r)[1]? = some (UInt8.ofNat p.2.1.toNat) ∧ (oneB p ++ r)[2]? = some (UInt8.ofNat p.2.2.1.toNat) ∧
    ((oneB p ++ r).drop (3 + (putB p.2.2.2.length).length)).take p.2.2.2.length = p.2.2.2 ∧
    (oneB p ++ r).drop (3 + (putB p.2.2.2.length).length + p.2.2.2.length) = r := by
  have hb := blobE_zero h
  have e : oneB p ++ r = UInt8.ofNat p.1.toNat :: UInt8.ofNat p.2.1.toNat :: UInt8.ofNat p.2.2.1.toNat :: (putB p.2.2.2.length ++ (p.2.2.2 ++ r)) := by simp [oneB]
  rw [e]
  have e3 : ∀ k, (UInt8.ofNat p.1.toNat :: UInt8.ofNat p.2.1.toNat :: UInt8.ofNat p.2.2.1.toNat :: (putB p.2.2.2.length ++ (p.2.2.2 ++ r))).drop (3 + k) = (putB p.2.2.2.length ++ (p.2.2.2 ++ r)).drop k := by
    intro k
    rw [show 3 + k = k + 1 + 1 + 1 from by omega]
    rfl
  refine ⟨by simp, ?_, by simp; omega, rfl, rfl, rfl, ?_, ?_⟩
  · exact getB_put _ _ (by omega)
  · rw [e3, List.drop_left, List.take_left]
  · rw [Nat.add_assoc, e3, ← List.drop_drop, List.drop_left, List.drop_left]
theorem blob_back (p : Blob) (h : blobE p = 0) : (((UInt8.ofNat p.1.toNat).toNat : Int), ((UInt8.ofNat p.2.1.toNat).toNat : Int), ((UInt8.ofNat p.2.2.1.toNat).toNat : Int), p.2.2.2) = p := by
  obtain ⟨h0, h1, h2, h3, h4, h5, _⟩ := blobE_zero h
  obtain ⟨a, b, c, d⟩ := p
  dsimp only at *
  simp only [Prod.mk.injEq, and_true]
  simp
  omega
theorem rd_body : ∀ (l : List Blob), (∀ p ∈ l, blobE p = 0) → rd l.length (bodyB l) = some l
  | [], _ => rfl
  | p :: l, h => by
    have hp := h p List.mem_cons_self
    obtain ⟨g1, g2, g3, g4, g5, g6, g7, g8⟩ := one_parts p hp (bodyB l)
    have hbb := blob_back p hp
    have e : bodyB (p :: l) = oneB p ++ bodyB l := rfl
    rw [e, List.length_cons, rd_step g1 g2 g3 g4 g5 g6 (by rw [g7, hbb]; exact hp), g7, g8, hbb, rd_body l fun q hq => h q (List.mem_cons_of_mem _ hq)]
    rfl
theorem rd_inv : ∀ (k : Nat) (r : List UInt8) (l : List Blob), rd k r = some l → l.length = k ∧ bodyB l = r ∧ ∀ p ∈ l, blobE p = 0
  | 0, r, l, h => by
    rw [rd] at h
    split at h
    · rename_i hr
      cases h
      exact ⟨rfl, hr.symm, fun p hp => absurd hp List.not_mem_nil⟩
    · cases h
  | k + 1, r, l, h => by
    by_cases h3 : r.length < 3
    · rw [rd_short h3] at h; cases h
    · rcases getB_facts (r.drop 3) with ⟨j, n, e1, e2, e3, e4, e5⟩ | e1 | e1
      · by_cases hn : r.length < 3 + j + n
        · rw [rd_far h3 e1 hn] at h; cases h
        · obtain ⟨y0, hy0⟩ : ∃ b, r[0]? = some b := ⟨_, List.getElem?_eq_getElem (by omega)⟩
          obtain ⟨y1, hy1⟩ : ∃ b, r[1]? = some b := ⟨_, List.getElem?_eq_getElem (by omega)⟩
          obtain ⟨y2, hy2⟩ : ∃ b, r[2]? = some b := ⟨_, List.getElem?_eq_getElem (by omega)⟩
          by_cases hz : blobE ((y0.toNat : Int), (y1.toNat : Int), (y2.toNat : Int), (r.drop (3 + j)).take n) = 0
          · rw [rd_step h3 e1 hn hy0 hy1 hy2 hz] at h
            obtain ⟨l', hl', rfl⟩ := Option.map_eq_some_iff.1 h
            obtain ⟨g1, g2, g3⟩ := rd_inv k _ _ hl'
            refine ⟨by rw [List.length_cons, g1], ?_, fun p hp => ?_⟩
            · have e : bodyB (((y0.toNat : Int), (y1.toNat : Int), (y2.toNat : Int), (r.drop (3 + j)).take n) :: l') = oneB ((y0.toNat : Int), (y1.toNat : Int), (y2.toNat : Int), (r.drop (3 + j)).take n) ++ bodyB l' := rfl
              have hln : ((r.drop (3 + j)).take n).length = n := by rw [List.length_take, List.length_drop]; omega
              rw [e, g2]
              unfold oneB
              simp only [hln, Int.toNat_natCast, e5]
              match r, h3, hy0, hy1, hy2 with
              | a :: b :: c :: t, _, hy0, hy1, hy2 =>
                simp only [List.getElem?_cons_zero, List.getElem?_cons_succ, Option.some.injEq] at hy0 hy1 hy2
                subst hy0 hy1 hy2
                have f1 : ∀ k, (a :: b :: c :: t).drop (3 + k) = t.drop k := by
                  intro k
                  rw [show 3 + k = k + 1 + 1 + 1 from by omega]
                  rfl
                have f3 : (a :: b :: c :: t).drop 3 = t := rfl
                have e9 : t.take j ++ ((t.drop j).take n ++ t.drop (j + n)) = t := by rw [← List.drop_drop, List.take_append_drop, List.take_append_drop]
                rw [Nat.add_assoc, f1, f1, f3]
                simpa using e9
            · rcases List.mem_cons.1 hp with rfl | hp
              · exact hz
              · exact g3 p hp
          · rw [rd_bad h3 e1 hn hy0 hy1 hy2 hz] at h; cases h
      · rw [rd_get h3 e1 (by decide)] at h; cases h
      · rw [rd_get h3 e1 (by decide)] at h; cases h
theorem rd_more : ∀ (l : List Blob) (more : List UInt8), (∀ p ∈ l, blobE p = 0) → more ≠ [] → rd l.length (bodyB l ++ more) = none
  | [], more, _, h => by
    show rd 0 more = none
    rw [rd, if_neg h]
  | p :: l, more, h, hm => by
    have hp := h p List.mem_cons_self
    obtain ⟨g1, g2, g3, g4, g5, g6, g7, g8⟩ := one_parts p hp (bodyB l ++ more)
    have hbb := blob_back p hp
    have e : bodyB (p :: l) ++ more = oneB p ++ (bodyB l ++ more) := by
      show (oneB p ++ bodyB l) ++ more = _
      rw [List.append_assoc]
    rw [e, List.length_cons, rd_step g1 g2 g3 g4 g5 g6 (by rw [g7, hbb]; exact hp), g7, g8, hbb, rd_more l more (fun q hq => h q (List.mem_cons_of_mem _ hq)) hm]
    rfl
theorem headB_eq (last : Bool) (n : Nat) (h : n < 256) : headB last n = [(if last then 1 else 0), UInt8.ofNat n] := by
  unfold headB
  rw [fix_one n h]
  cases last <;> rfl
theorem writeE_zero {l : List Blob} (h : writeE l = 0) : l.length ≤ 40 ∧ (∀ p ∈ l, blobE p = 0) ∧ 2 + (bodyB l).length ≤ 1000 := by
  unfold writeE at h
  split at h
  · cases h
  · split at h
    · rename_i h2; exact absurd h h2
    · split at h
      · cases h
      · rename_i h1 h2 h3
        simp only [ne_eq, Decidable.not_not] at h2
        exact ⟨by omega, firstE_zero.1 h2, by omega⟩
theorem writeE_of {l : List Blob} (h : l.length ≤ 40 ∧ (∀ p ∈ l, blobE p = 0) ∧ 2 + (bodyB l).length ≤ 1000) : writeE l = 0 := by
  unfold writeE
  rw [if_neg (by omega), if_neg (by simp [firstE_zero.2 h.2.1]), if_neg (by omega)]
/-- what is written is read as it was -/
theorem read_write {l : List Blob} (last : Bool) (h : writeE l = 0) : (writeB l last).length ≤ 1000 ∧ readO (writeB l last) = some l ∧ (((writeB l last).getD 0 0).toNat == 1) = last := by
  obtain ⟨h1, h2, h3⟩ := writeE_zero h
  have e : writeB l last = (if last then 1 else 0) :: UInt8.ofNat l.length :: bodyB l := by
    unfold writeB
    rw [headB_eq last _ (by omega)]
    rfl
  have hl : (UInt8.ofNat l.length).toNat = l.length := by simp; omega
  rw [e]
  refine ⟨by simp; omega, ?_, by cases last <;> rfl⟩
  unfold readO
  rw [if_pos]
  · show rd (UInt8.ofNat l.length).toNat (bodyB l) = some l
    rw [hl]
    exact rd_body l h2
  · refine ⟨by simp, by simp; omega, ?_, ?_⟩
    · show (if last then (1 : UInt8) else 0).toNat ≤ 1
      cases last <;> decide
    · show (UInt8.ofNat l.length).toNat ≤ 40
      omega
/-- what is read is written as just that text, and nothing may stand behind it -/
theorem write_read {L : List UInt8} {l : List Blob} (h : readO L = some l) : writeE l = 0 ∧ writeB l ((L.getD 0 0).toNat == 1) = L ∧ ∀ more, more ≠ [] → readO (L ++ more) = none := by
  unfold readO at h
  split at h
  · rename_i hh
    obtain ⟨h1, h2, h3, h4⟩ := hh
    obtain ⟨g1, g2, g3⟩ := rd_inv _ _ _ h
    match L, h1, h2, h3, h4, g1, g2, g3 with
    | a :: b :: t, h1, h2, h3, h4, g1, g2, g3 =>
      have h3' : a.toNat ≤ 1 := h3
      have h4' : b.toNat ≤ 40 := h4
      have g1' : l.length = b.toNat := g1
      have g2' : bodyB l = t := g2
      refine ⟨writeE_of ⟨by omega, g3, by rw [g2']; simp at h2; omega⟩, ?_, fun more hm => ?_⟩
      · unfold writeB
        rw [headB_eq _ _ (by omega), g1', g2']
        have ea : a = 0 ∨ a = 1 := by
          rcases Nat.lt_or_ge a.toNat 1 with h | h
          · left
            apply UInt8.toNat_inj.1
            show a.toNat = 0
            omega
          · right
            apply UInt8.toNat_inj.1
            show a.toNat = 1
            omega
        rcases ea with rfl | rfl <;> simp
      · unfold readO
        split
        · show rd b.toNat (t ++ more) = none
          rw [← g1', ← g2']
          exact rd_more l more g3 hm
        · rfl
  · cases h
end Go.Proofs.Ytcbpeampjhegcaa.blob
