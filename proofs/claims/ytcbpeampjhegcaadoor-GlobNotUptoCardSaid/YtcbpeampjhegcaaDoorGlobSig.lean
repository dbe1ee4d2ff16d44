/-
  glob: the signs of a text (no program).
-/
import Derived.Test.YtcbpeampjhegcaaDoorSlStr
import Derived.Shelf.Unicode.DecodeSlow
namespace Go.Proofs.YtcbpeampjhegcaaDoor.glob
open Go.RowKit kit sl
set_option linter.unusedVariables false
/-- a number that a text of bytes may say -/
def okV (v : Nat) : Prop := v < 55296 ∨ 57344 ≤ v ∧ v ≤ 1114111
def encN (v : Nat) : List Nat :=
  if v < 128 then [v] else if v < 2048 then [192 + v / 64, 128 + v % 64] else if v < 65536 then [224 + v / 4096, 128 + v / 64 % 64, 128 + v % 64] else [240 + v / 262144, 128 + v / 4096 % 64, 128 + v / 64 % 64, 128 + v % 64]
def nn (s : List UInt8) : List Nat := s.map UInt8.toNat
/-- what begins with the bytes of v -/
def Begins (s : List UInt8) (v : Nat) (r : List UInt8) : Prop := okV v ∧ ∃ a, s = a ++ r ∧ nn a = encN v
theorem dec_of_enc {v n b0 b1 b2 b3 : Nat} (h : okV v) (hn : (encN v).length ≤ n) (he : encN v = [b0] ∨ encN v = [b0, b1] ∨ encN v = [b0, b1, b2] ∨ encN v = [b0, b1, b2, b3]) : Lib.decodeN n b0 b1 b2 b3 = (v, (encN v).length) := by
  unfold okV at h
  unfold encN at hn he ⊢
  by_cases h1 : v < 128
  · rw [if_pos h1] at hn he ⊢
    simp at he
    unfold Lib.decodeN
    rw [if_pos (by omega), ← he]
    rfl
  · rw [if_neg h1] at hn he ⊢
    by_cases h2 : v < 2048
    · rw [if_pos h2] at hn he ⊢
      simp at he hn
      obtain ⟨rfl, rfl⟩ := he
      unfold Lib.decodeN
      rw [if_neg (by omega), if_pos (by omega), if_pos (by omega)]
      refine Prod.ext ?_ rfl
      show _ % 32 * 64 + _ % 64 = v
      omega
    · rw [if_neg h2] at hn he ⊢
      by_cases h3 : v < 65536
      · rw [if_pos h3] at hn he ⊢
        simp at he hn
        obtain ⟨rfl, rfl, rfl⟩ := he
        have e : (224 + v / 4096) % 16 * 4096 + (128 + v / 64 % 64) % 64 * 64 + (128 + v % 64) % 64 = v := by omega
        unfold Lib.decodeN
        rw [if_neg (by omega), if_neg (by omega), if_pos (by omega), e, if_pos (by omega)]
        rfl
      · rw [if_neg h3] at hn he ⊢
        simp at he hn
        obtain ⟨rfl, rfl, rfl, rfl⟩ := he
        have e : (240 + v / 262144) % 8 * 262144 + (128 + v / 4096 % 64) % 64 * 4096 + (128 + v / 64 % 64) % 64 * 64 + (128 + v % 64) % 64 = v := by omega
        unfold Lib.decodeN
        rw [if_neg (by omega), if_neg (by omega), if_neg (by omega), if_pos (by omega), e, if_pos (by omega)]
        rfl
theorem enc_of_dec {n b0 b1 b2 b3 : Nat} (h0 : b0 < 256) (h1 : b1 < 256) (h2 : b2 < 256) (h3 : b3 < 256) :
    Lib.decodeN n b0 b1 b2 b3 = (65533, 1) ∨ ∃ v, okV v ∧ Lib.decodeN n b0 b1 b2 b3 = (v, (encN v).length) ∧ (encN v = [b0] ∨ 2 ≤ n ∧ encN v = [b0, b1] ∨ 3 ≤ n ∧ encN v = [b0, b1, b2] ∨ 4 ≤ n ∧ encN v = [b0, b1, b2, b3]) := by
  unfold Lib.decodeN
  by_cases c0 : b0 < 128
  · rw [if_pos c0]
    have e : encN b0 = [b0] := by unfold encN; rw [if_pos c0]
    exact .inr ⟨b0, .inl (by omega), by rw [e]; rfl, .inl e⟩
  · rw [if_neg c0]
    by_cases c1 : b0 / 32 = 6 ∧ (1 < n ∧ b1 / 64 = 2)
    · rw [if_pos c1]
      by_cases d1 : b0 % 32 * 64 + b1 % 64 ≥ 128
      · rw [if_pos d1]
        generalize hv : b0 % 32 * 64 + b1 % 64 = v at *
        have e : encN v = [b0, b1] := by
          unfold encN
          rw [if_neg (by omega), if_pos (by omega)]
          simp only [List.cons.injEq, and_true]
          omega
        exact .inr ⟨v, .inl (by omega), by rw [e]; rfl, .inr (.inl ⟨by omega, e⟩)⟩
      · rw [if_neg d1]
        exact .inl rfl
    · rw [if_neg c1]
      by_cases c2 : b0 / 16 = 14 ∧ (1 < n ∧ b1 / 64 = 2) ∧ (2 < n ∧ b2 / 64 = 2)
      · rw [if_pos c2]
        generalize hv : b0 % 16 * 4096 + b1 % 64 * 64 + b2 % 64 = v at *
        by_cases d2 : v ≥ 2048 ∧ (v < 55296 ∨ (57344 ≤ v ∧ v ≤ 1114111))
        · rw [if_pos d2]
          have e : encN v = [b0, b1, b2] := by
            unfold encN
            rw [if_neg (by omega), if_neg (by omega), if_pos (by omega)]
            simp only [List.cons.injEq, and_true]
            omega
          exact .inr ⟨v, d2.2, by rw [e]; rfl, .inr (.inr (.inl ⟨by omega, e⟩))⟩
        · rw [if_neg d2]
          exact .inl rfl
      · rw [if_neg c2]
        by_cases c3 : b0 / 8 = 30 ∧ (1 < n ∧ b1 / 64 = 2) ∧ (2 < n ∧ b2 / 64 = 2) ∧ (3 < n ∧ b3 / 64 = 2)
        · rw [if_pos c3]
          generalize hv : b0 % 8 * 262144 + b1 % 64 * 4096 + b2 % 64 * 64 + b3 % 64 = v at *
          by_cases d3 : v ≥ 65536 ∧ (v < 55296 ∨ (57344 ≤ v ∧ v ≤ 1114111))
          · rw [if_pos d3]
            have e : encN v = [b0, b1, b2, b3] := by
              unfold encN
              rw [if_neg (by omega), if_neg (by omega), if_neg (by omega)]
              simp only [List.cons.injEq, and_true]
              omega
            exact .inr ⟨v, d3.2, by rw [e]; rfl, .inr (.inr (.inr ⟨by omega, e⟩))⟩
          · rw [if_neg d3]
            exact .inl rfl
        · rw [if_neg c3]
          exact .inl rfl
theorem enc_long (v : Nat) : 1 ≤ (encN v).length ∧ (encN v).length ≤ 4 := by
  unfold encN
  repeat' split
  all_goals simp
theorem get_str (s : List UInt8) (i : Nat) : ((str s).get! i).toNat = (s.getD i 0).toNat := by
  show ((str s).data.getD i default).toNat = _
  simp
  rfl
def decL (s : List UInt8) : Nat × Nat := Lib.decodeGo (str s)
theorem decL_is (b : UInt8) (t : List UInt8) : decL (b :: t) = Lib.decodeN (t.length + 1) b.toNat (t.getD 0 0).toNat (t.getD 1 0).toNat (t.getD 2 0).toNat := by
  unfold decL Lib.decodeGo
  have hs : (str (b :: t)).size = t.length + 1 := str_size _
  rw [if_neg (by omega), Lib.decode_at, get_str, get_str, get_str, get_str, hs]
  rfl
theorem getD_at {t : List UInt8} {i : Nat} {x : UInt8} (h : t[i]? = some x) : t.getD i 0 = x := by rw [List.getD_eq_getElem?_getD, h]; rfl
theorem begins_dec {b : UInt8} {t r : List UInt8} {v : Nat} (h : Begins (b :: t) v r) : decL (b :: t) = (v, (encN v).length) := by
  obtain ⟨hv, a, ha, he⟩ := h
  rw [decL_is]
  have hl : a.length = (encN v).length := by rw [← he]; simp [nn]
  have hlen : t.length + 1 = a.length + r.length := by have := congrArg List.length ha; simpa using this
  refine dec_of_enc hv (by omega) ?_
  have h4 := enc_long v
  rw [← he]
  match a, hl, ha with
  | [], hl, ha => simp at hl; omega
  | [a0], hl, ha => simp at ha; obtain ⟨rfl, rfl⟩ := ha; exact .inl rfl
  | [a0, a1], hl, ha => simp at ha; obtain ⟨rfl, rfl⟩ := ha; exact .inr (.inl rfl)
  | [a0, a1, a2], hl, ha => simp at ha; obtain ⟨rfl, rfl⟩ := ha; exact .inr (.inr (.inl rfl))
  | [a0, a1, a2, a3], hl, ha => simp at ha; obtain ⟨rfl, rfl⟩ := ha; exact .inr (.inr (.inr rfl))
  | a0 :: a1 :: a2 :: a3 :: a4 :: a5, hl, ha => simp at hl; omega
theorem dec_cases (b : UInt8) (t : List UInt8) : (∃ v r, Begins (b :: t) v r ∧ decL (b :: t) = (v, (encN v).length)) ∨ (decL (b :: t) = (65533, 1) ∧ ∀ v r, ¬ Begins (b :: t) v r) := by
  rcases enc_of_dec (n := t.length + 1) b.toNat_lt (t.getD 0 0).toNat_lt (t.getD 1 0).toNat_lt (t.getD 2 0).toNat_lt with h | ⟨v, hv, h1, h2⟩
  · refine .inr ⟨by rw [decL_is]; exact h, fun v r hb => ?_⟩
    have h2 := begins_dec hb
    rw [decL_is, h] at h2
    obtain ⟨h3, h4⟩ := Prod.mk.inj h2
    subst h3
    exact absurd h4 (by decide)
  · left
    match t, h1, h2 with
    | [], h1, h2 =>
      rcases h2 with h2 | ⟨h2, _⟩ | ⟨h2, _⟩ | ⟨h2, _⟩
      · exact ⟨v, [], ⟨hv, [b], rfl, h2.symm⟩, by rw [decL_is]; exact h1⟩
      all_goals (simp at h2)
    | [c1], h1, h2 =>
      rcases h2 with h2 | ⟨_, h2⟩ | ⟨h2, _⟩ | ⟨h2, _⟩
      · exact ⟨v, [c1], ⟨hv, [b], rfl, h2.symm⟩, by rw [decL_is]; exact h1⟩
      · exact ⟨v, [], ⟨hv, [b, c1], rfl, h2.symm⟩, by rw [decL_is]; exact h1⟩
      all_goals (simp at h2)
    | [c1, c2], h1, h2 =>
      rcases h2 with h2 | ⟨_, h2⟩ | ⟨_, h2⟩ | ⟨h2, _⟩
      · exact ⟨v, [c1, c2], ⟨hv, [b], rfl, h2.symm⟩, by rw [decL_is]; exact h1⟩
      · exact ⟨v, [c2], ⟨hv, [b, c1], rfl, h2.symm⟩, by rw [decL_is]; exact h1⟩
      · exact ⟨v, [], ⟨hv, [b, c1, c2], rfl, h2.symm⟩, by rw [decL_is]; exact h1⟩
      all_goals (simp at h2)
    | c1 :: c2 :: c3 :: c4, h1, h2 =>
      rcases h2 with h2 | ⟨_, h2⟩ | ⟨_, h2⟩ | ⟨_, h2⟩
      · exact ⟨v, c1 :: c2 :: c3 :: c4, ⟨hv, [b], rfl, h2.symm⟩, by rw [decL_is]; exact h1⟩
      · exact ⟨v, c2 :: c3 :: c4, ⟨hv, [b, c1], rfl, h2.symm⟩, by rw [decL_is]; exact h1⟩
      · exact ⟨v, c3 :: c4, ⟨hv, [b, c1, c2], rfl, h2.symm⟩, by rw [decL_is]; exact h1⟩
      · exact ⟨v, c4, ⟨hv, [b, c1, c2, c3], rfl, h2.symm⟩, by rw [decL_is]; exact h1⟩
end Go.Proofs.YtcbpeampjhegcaaDoor.glob
