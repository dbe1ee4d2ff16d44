/-
  lz: the plain law of the fewest marks. No program in sight.
-/
import Derived.Test.YtnejhldagkennaaLz
namespace Go.Proofs.Ytnejhldagkennaa.lz
open Go.RowKit kit
set_option linter.unusedVariables false

theorem u8_wf (x : UInt8) : (Lit.int .u8 (x.toNat : Int)).wf = true := by
  have := UInt8.toNat_lt x
  simp [Lit.wf, IntKind.min, IntKind.max, IntKind.signed, IntKind.bits]
  omega
/-- n bytes from k on are the n bytes from i on -/
def mat (s : List UInt8) (k i n : Nat) : Prop := ∀ t, t < n → s[k + t]? = s[i + t]?
/-- the longest copy that may be made at i has n bytes (none: 0); one begins d back -/
def LongAt (s : List UInt8) (i n d : Nat) : Prop :=
  (n = 0 ∨ (3 ≤ n ∧ n ≤ 66 ∧ i + n ≤ s.length ∧ 1 ≤ d ∧ d ≤ i ∧ mat s (i - d) i n)) ∧ ∀ k m, k < i → 3 ≤ m → m ≤ 66 → i + m ≤ s.length → mat s k i m → m ≤ n
def LongAll (s : List UInt8) (L D : Nat → Nat) : Prop := ∀ i, i < s.length → LongAt s i (L i) (D i)
/-- from j on: the fewest marks, and the first step of them -/
def Dp (s : List UInt8) (L B S : Nat → Nat) (j : Nat) : Prop :=
  B s.length = 0 ∧ ∀ i, j ≤ i → i < s.length → (S i = 1 ∨ 3 ≤ S i ∧ S i ≤ L i) ∧ B i = B (i + S i) + 1 ∧ B i ≤ B (i + 1) + 1 ∧ (∀ n, 3 ≤ n → n ≤ L i → B i ≤ B (i + n) + 1) ∧ B i + i ≤ s.length

theorem copyF_pre : ∀ (n d : Nat) (out : List UInt8), out <+: copyF n d out := by
  intro n
  induction n with
  | zero => intro d out; exact List.prefix_refl _
  | succ n ih => intro d out; rw [copyF]; exact List.IsPrefix.trans (List.prefix_append _ _) (ih d _)
theorem stepO_pre (out : List UInt8) (m : Int × Int × Int) : out <+: stepO out m := by
  unfold stepO
  split
  · exact List.IsPrefix.trans (List.prefix_append _ _) (copyF_pre _ _ _)
  · exact copyF_pre _ _ _
theorem expF_pre : ∀ (l : List (Int × Int × Int)) (out : List UInt8), (expF l out).2 ≠ 0 ∧ (expF l out).1 = [] ∨ (expF l out).2 = 0 ∧ out <+: (expF l out).1 := by
  intro l
  induction l with
  | nil => intro out; exact .inr ⟨rfl, List.prefix_refl _⟩
  | cons m l ih =>
    intro out
    rw [expF]
    split
    · rcases ih (stepO out m) with h | h
      · exact .inl h
      · exact .inr ⟨h.1, List.IsPrefix.trans (stepO_pre out m) h.2⟩
    · rename_i h; exact .inl ⟨h, rfl⟩
theorem expF_app : ∀ (l r : List (Int × Int × Int)) (out x : List UInt8), expF l out = (x, 0) → expF (l ++ r) out = expF r x := by
  intro l
  induction l with
  | nil => intro r out x h; rw [expF] at h; cases h; rfl
  | cons m l ih =>
    intro r out x h
    rw [expF] at h
    rw [List.cons_append, expF]
    split at h
    · rename_i h0; rw [if_pos h0]; exact ih r _ x h
    · rename_i h0; exact absurd (congrArg Prod.snd h) h0
/-- a copy says the same as what it is of -/
theorem copyF_take (s : List UInt8) : ∀ (n d i : Nat), 1 ≤ d → d ≤ i → i + n ≤ s.length → mat s (i - d) i n → copyF n d (s.take i) = s.take (i + n) := by
  intro n
  induction n with
  | zero => intro d i _ _ _ _; rfl
  | succ n ih =>
    intro d i h1 h2 h3 hm
    have hl : (s.take i).length = i := by rw [List.length_take]; omega
    have h0 := hm 0 (by omega)
    simp only [Nat.add_zero] at h0
    have e : s.take i ++ [(s.take i).getD (i - d) 0] = s.take (i + 1) := by
      have hlt : i < s.length := by omega
      rw [List.take_add_one, List.getD_eq_getElem?_getD, List.getElem?_take, if_pos (by omega), h0, List.getElem?_eq_getElem hlt]
      rfl
    rw [copyF, hl, e, ih d (i + 1) h1 (by omega) (by omega) ?_, show i + 1 + n = i + (n + 1) by omega]
    intro t ht
    have := hm (t + 1) (by omega)
    rw [show i + 1 - d + t = i - d + (t + 1) by omega, show i + 1 + t = i + (t + 1) by omega]
    exact this
/-- ..and the other way -/
theorem copyF_mat : ∀ (n d : Nat) (out : List UInt8), 1 ≤ d → d ≤ out.length → mat (copyF n d out) (out.length - d) out.length n := by
  intro n
  induction n with
  | zero => intro d out _ _ t ht; omega
  | succ n ih =>
    intro d out h1 h2 t ht
    have hlen : (out ++ [out.getD (out.length - d) 0]).length = out.length + 1 := by simp
    rw [copyF]
    have hp := copyF_pre n d (out ++ [out.getD (out.length - d) 0])
    obtain ⟨r, hr⟩ := hp
    cases t with
    | zero =>
      rw [← hr]
      simp only [Nat.add_zero]
      rw [List.getElem?_append_left (by omega), List.getElem?_append_left (by omega), List.getElem?_append_left (by omega), List.getElem?_append_right (Nat.le_refl _), Nat.sub_self, List.getD_eq_getElem?_getD, List.getElem?_eq_getElem (show out.length - d < out.length by omega)]
      rfl
    | succ t =>
      have := ih d (out ++ [out.getD (out.length - d) 0]) h1 (by omega) t (by omega)
      rw [hlen] at this
      rw [show out.length - d + (t + 1) = out.length + 1 - d + t by omega, show out.length + (t + 1) = out.length + 1 + t by omega]
      exact this
theorem pre_take {a s : List UInt8} (h : a <+: s) : a = s.take a.length := by
  obtain ⟨r, rfl⟩ := h
  simp
/-- the first mark of those that say s -/
theorem exp_first {s : List UInt8} {m : Int × Int × Int} {l : List (Int × Int × Int)} {p : Nat} (hp : p ≤ s.length) (h : expF (m :: l) (s.take p) = (s, 0)) (hg : goodM m) :
    (∃ x, s[p]? = some x ∧ m = (0, 0, (x.toNat : Int)) ∧ expF l (s.take (p + 1)) = (s, 0)) ∨
    ∃ n d : Nat, 3 ≤ n ∧ n ≤ 66 ∧ 1 ≤ d ∧ d ≤ p ∧ p + n ≤ s.length ∧ m = ((n : Int), (d : Int), 0) ∧ mat s (p - d) p n ∧ expF l (s.take (p + n)) = (s, 0) := by
  rw [expF] at h
  split at h
  · rename_i h0
    have hl : (s.take p).length = p := by rw [List.length_take]; omega
    have hpre : stepO (s.take p) m <+: s := by
      rcases expF_pre l (stepO (s.take p) m) with h2 | h2
      · rw [h] at h2; exact absurd rfl h2.1
      · rw [h] at h2; exact h2.2
    have hle := List.IsPrefix.length_le hpre
    have htk := pre_take hpre
    have hc : checkE m = 0 := by
      unfold stepE at h0
      split at h0
      · rename_i h9; exact absurd h0 h9
      · rename_i h9; exact Decidable.not_not.1 h9
    have hd : ¬ ((s.take p).length : Int) < m.2.1 := by
      unfold stepE at h0
      rw [if_neg (by rw [hc]; exact fun h => h rfl)] at h0
      split at h0
      · cases h0
      · assumption
    rcases checkE_two m with h2 | ⟨_, h2⟩
    · rw [hc] at h2; cases h2
    · obtain ⟨a, b, c⟩ := m
      rcases h2 with ⟨h3, h4⟩ | ⟨h3, h4, h5, h6⟩
      · left
        dsimp only at h3 h4
        subst h3; subst h4
        have hst : stepO (s.take p) ((0 : Int), (0 : Int), c) = s.take p ++ [UInt8.ofNat c.toNat] := by unfold stepO; rfl
        rw [hst] at h htk hle
        rw [List.length_append, List.length_singleton, hl] at htk hle
        have hlt : p < s.length := by omega
        refine ⟨s[p], List.getElem?_eq_getElem hlt, ?_, by rw [← htk]; exact h⟩
        have hx : UInt8.ofNat c.toNat = s[p] := by
          have e : (s.take p ++ [UInt8.ofNat c.toNat])[p]? = (s.take (p + 1))[p]? := by rw [htk]
          rw [List.getElem?_append_right (by omega), hl, Nat.sub_self, List.getElem?_take, if_pos (by omega), List.getElem?_eq_getElem hlt] at e
          simpa using e
        have hw := hg.2.2
        obtain ⟨n, rfl, hn⟩ := u8_nat hw
        rw [← hx]
        simp
        omega
      · right
        dsimp only at h3 h4 h5 h6 hd
        subst h6
        obtain ⟨n, rfl⟩ := Int.eq_ofNat_of_zero_le (by omega : 0 ≤ a)
        obtain ⟨d, rfl⟩ := Int.eq_ofNat_of_zero_le (by omega : 0 ≤ b)
        rw [hl] at hd
        have hst : stepO (s.take p) ((n : Int), (d : Int), (0 : Int)) = copyF n d (s.take p) := by
          unfold stepO
          rw [if_neg (by dsimp only; omega)]
          rfl
        rw [hst] at h htk hle
        rw [copyF_len, hl] at htk hle
        have hm := copyF_mat n d (s.take p) (by omega) (by omega)
        rw [hl, htk] at hm
        refine ⟨n, d, by omega, by omega, by omega, by omega, by omega, rfl, ?_, by rw [← htk]; exact h⟩
        intro t ht
        have := hm t ht
        rwa [List.getElem?_take, List.getElem?_take, if_pos (by omega), if_pos (by omega)] at this
  · rename_i h0
    exact absurd (congrArg Prod.snd h) h0
theorem exp_nil {s : List UInt8} {p : Nat} (hp : p ≤ s.length) (h : expF [] (s.take p) = (s, 0)) : p = s.length := by
  rw [expF] at h
  have := congrArg (fun x => x.1.length) h
  simp at this
  omega
/-- no marks are fewer -/
theorem least {s : List UInt8} {L D B S : Nat → Nat} (hL : LongAll s L D) (hB : Dp s L B S 0) : ∀ (l : List (Int × Int × Int)) (p : Nat), p ≤ s.length → (∀ m ∈ l, goodM m) → expF l (s.take p) = (s, 0) → B p ≤ l.length := by
  intro l
  induction l with
  | nil =>
    intro p hp _ h
    rw [exp_nil hp h, hB.1]
    exact Nat.zero_le _
  | cons m l ih =>
    intro p hp hg h
    rcases exp_first hp h (hg m List.mem_cons_self) with ⟨x, h1, h2, h3⟩ | ⟨n, d, h1, h2, h3, h4, h5, h6, h7, h8⟩
    · have hlt : p < s.length := (List.getElem?_eq_some_iff.1 h1).1
      have := ih (p + 1) hlt (fun m hm => hg m (List.mem_cons_of_mem _ hm)) h3
      have hb := (hB.2 p (Nat.zero_le _) hlt).2.2.1
      rw [List.length_cons]; omega
    · have := ih (p + n) h5 (fun m hm => hg m (List.mem_cons_of_mem _ hm)) h8
      have hb := (hB.2 p (Nat.zero_le _) (by omega)).2.2.2.1 n h1 ((hL p (by omega)).2 (p - d) n (by omega) h1 h2 h5 h7)
      rw [List.length_cons]; omega
/-- the mark at i -/
def markF (s : List UInt8) (S D : Nat → Nat) (i : Nat) : Int × Int × Int := if S i = 1 then (0, 0, ((s.getD i 0).toNat : Int)) else ((S i : Int), (D i : Int), 0)
theorem mark_step {s : List UInt8} {L D B S : Nat → Nat} {i : Nat} {out : List (Int × Int × Int)} (hs : s.length ≤ 512) (hL : LongAll s L D) (hB : Dp s L B S 0) (hi : i < s.length) (ho : expB out = (s.take i, 0)) :
    i + S i ≤ s.length ∧ 1 ≤ S i ∧ expB (out ++ [markF s S D i]) = (s.take (i + S i), 0) ∧ goodM (markF s S D i) := by
  obtain ⟨h1, h2, h3, h4, h5⟩ := hB.2 i (Nat.zero_le _) hi
  have hl : (s.take i).length = i := by rw [List.length_take]; omega
  have ha : expB (out ++ [markF s S D i]) = expF [markF s S D i] (s.take i) := expF_app _ _ _ _ ho
  rw [ha, expF]
  rcases h1 with h1 | ⟨h1, h6⟩
  · have hm : markF s S D i = (0, 0, ((s.getD i 0).toNat : Int)) := by unfold markF; rw [if_pos h1]
    have hx : s.getD i 0 = s[i] := by rw [List.getD_eq_getElem?_getD, List.getElem?_eq_getElem hi]; rfl
    rw [hm, h1]
    have hst : stepE (s.take i) ((0 : Int), (0 : Int), ((s.getD i 0).toNat : Int)) = 0 := by
      unfold stepE
      rw [if_neg (fun h => h rfl), hl, if_neg (by dsimp only; omega), if_neg (by show ¬ 512 < (i : Int) + max 1 0; omega)]
    rw [if_pos hst]
    refine ⟨by omega, Nat.le_refl _, ?_, ?_⟩
    · show (stepO _ _, 0) = _
      have : stepO (s.take i) ((0 : Int), (0 : Int), ((s.getD i 0).toNat : Int)) = s.take i ++ [UInt8.ofNat ((s.getD i 0).toNat : Int).toNat] := by unfold stepO; rfl
      rw [this, hx, List.take_add_one, List.getElem?_eq_getElem hi]
      simp
    · exact ⟨rfl, rfl, u8_wf _⟩
  · have hlong := (hL i hi).1
    have hne : L i ≠ 0 := by omega
    rcases hlong with h7 | ⟨g1, g2, g3, g4, g5, g6⟩
    · exact absurd h7 hne
    · have hm : markF s S D i = ((S i : Int), (D i : Int), 0) := by unfold markF; rw [if_neg (by omega)]
      rw [hm]
      have hst : stepE (s.take i) ((S i : Int), (D i : Int), (0 : Int)) = 0 := by
        have hc : checkE ((S i : Int), (D i : Int), (0 : Int)) = 0 := by
          unfold checkE
          rw [if_neg (by dsimp only; omega), if_neg (by dsimp only; omega)]
        unfold stepE
        rw [if_neg (by rw [hc]; exact fun h => h rfl), hl, if_neg (by dsimp only; omega), if_neg (by dsimp only; omega)]
      rw [if_pos hst]
      refine ⟨by omega, by omega, ?_, ?_⟩
      · show (stepO _ _, 0) = _
        have : stepO (s.take i) ((S i : Int), (D i : Int), (0 : Int)) = copyF (S i) (D i) (s.take i) := by
          unfold stepO
          rw [if_neg (by dsimp only; omega)]
          rfl
        rw [this, copyF_take s (S i) (D i) i g4 g5 (by omega) (fun t ht => g6 t (by omega))]
      · have : D i ≤ 512 := by omega
        have : S i ≤ 66 := by omega
        refine ⟨?_, ?_, rfl⟩ <;> simp [Lit.wf, IntKind.min, IntKind.max, IntKind.signed, IntKind.bits] <;> omega
/-- what Find answers -/
def Found (s : List UInt8) (out : List (Int × Int × Int)) : Prop := expB out = (s, 0) ∧ (∀ m ∈ out, goodM m) ∧ out.length ≤ 512 ∧ ∀ l, (∀ m ∈ l, goodM m) → expB l = (s, 0) → out.length ≤ l.length
/-- on the way: before place i -/
def Way (s : List UInt8) (B : Nat → Nat) (i : Nat) (out : List (Int × Int × Int)) : Prop := i ≤ s.length ∧ expB out = (s.take i, 0) ∧ (∀ m ∈ out, goodM m) ∧ out.length + B i = B 0
theorem way_nil (s : List UInt8) (B : Nat → Nat) : Way s B 0 [] := ⟨Nat.zero_le _, rfl, fun m h => absurd h List.not_mem_nil, by simp⟩
theorem way_next {s : List UInt8} {L D B S : Nat → Nat} {i : Nat} {out : List (Int × Int × Int)} (hs : s.length ≤ 512) (hL : LongAll s L D) (hB : Dp s L B S 0) (hi : i < s.length) (h : Way s B i out) : Way s B (i + S i) (out ++ [markF s S D i]) := by
  obtain ⟨h1, h2, h3, h4⟩ := h
  obtain ⟨g1, g2, g3, g4⟩ := mark_step hs hL hB hi h2
  refine ⟨g1, g3, fun m hm => ?_, ?_⟩
  · rcases List.mem_append.1 hm with hm | hm
    · exact h3 m hm
    · rw [List.mem_singleton.1 hm]; exact g4
  · have := (hB.2 i (Nat.zero_le _) hi).2.1
    rw [List.length_append, List.length_singleton]; omega
theorem way_end {s : List UInt8} {L D B S : Nat → Nat} {out : List (Int × Int × Int)} (hs : s.length ≤ 512) (hL : LongAll s L D) (hB : Dp s L B S 0) (h : Way s B s.length out) : Found s out := by
  obtain ⟨h1, h2, h3, h4⟩ := h
  rw [hB.1] at h4
  rw [List.take_length] at h2
  have hb0 : B 0 ≤ s.length := by
    rcases Nat.eq_zero_or_pos s.length with h | h
    · have := hB.1; rw [h] at this; omega
    · have := (hB.2 0 (Nat.zero_le _) h).2.2.2.2; omega
  exact ⟨h2, h3, by omega, fun l hg hl => by have := least hL hB l 0 (Nat.zero_le _) hg hl; omega⟩
/-! ### two texts -/
theorem found_abc {out : List (Int × Int × Int)} (h : Found [97, 98, 99, 97, 98, 99, 97, 98, 99] out) : out = [(0, 0, 97), (0, 0, 98), (0, 0, 99), (6, 3, 0)] := by
  obtain ⟨h1, h2, _, h4⟩ := h
  have hlen := h4 [(0, 0, 97), (0, 0, 98), (0, 0, 99), (6, 3, 0)] (by simp only [List.mem_cons, List.not_mem_nil, or_false]; rintro m (rfl | rfl | rfl | rfl) <;> exact ⟨by decide, by decide, by decide⟩) (by decide)
  clear h4
  have h1' : expF out (List.take 0 [97, 98, 99, 97, 98, 99, 97, 98, 99]) = ([97, 98, 99, 97, 98, 99, 97, 98, 99], 0) := h1
  cases out with
  | nil => exact absurd (exp_nil (s := _) (p := 0) (by decide) h1') (by decide)
  | cons m0 out =>
    rcases exp_first (by decide) h1' (h2 _ (by simp)) with ⟨x, e1, rfl, k0⟩ | ⟨n, d, a1, a2, a3, a4, _⟩
    rotate_left
    · omega
    obtain rfl : x = 97 := by simpa using e1.symm
    cases out with
    | nil => exact absurd (exp_nil (by decide) k0) (by decide)
    | cons m1 out =>
      rcases exp_first (by decide) k0 (h2 _ (by simp)) with ⟨x, e1, rfl, k1⟩ | ⟨n, d, a1, a2, a3, a4, a5, a6, a7, a8⟩
      rotate_left
      · obtain rfl : d = 1 := by omega
        have := a7 0 (by omega)
        exact absurd this (by decide)
      obtain rfl : x = 98 := by simpa using e1.symm
      cases out with
      | nil => exact absurd (exp_nil (by decide) k1) (by decide)
      | cons m2 out =>
        rcases exp_first (by decide) k1 (h2 _ (by simp)) with ⟨x, e1, rfl, k2⟩ | ⟨n, d, a1, a2, a3, a4, a5, a6, a7, a8⟩
        rotate_left
        · have := a7 0 (by omega)
          rcases (by omega : d = 1 ∨ d = 2) with rfl | rfl
          · exact absurd this (by decide)
          · exact absurd this (by decide)
        obtain rfl : x = 99 := by simpa using e1.symm
        cases out with
        | nil => exact absurd (exp_nil (by decide) k2) (by decide)
        | cons m3 out =>
          have : out = [] := by
            cases out with
            | nil => rfl
            | cons _ _ => simp at hlen
          subst this
          rcases exp_first (by decide) k2 (h2 _ (by simp)) with ⟨x, e1, rfl, k3⟩ | ⟨n, d, a1, a2, a3, a4, a5, rfl, a7, a8⟩
          · exact absurd (exp_nil (by decide) k3) (by decide)
          · have := exp_nil a5 a8
            have hn : n = 6 := by simp at this; omega
            subst hn
            have := a7 0 (by omega)
            rcases (by omega : d = 1 ∨ d = 2 ∨ d = 3) with rfl | rfl | rfl
            · exact absurd this (by decide)
            · exact absurd this (by decide)
            · rfl
theorem found_a8 {out : List (Int × Int × Int)} (h : Found [97, 97, 97, 97, 97, 97, 97, 97] out) : out.length = 2 := by
  obtain ⟨h1, h2, _, h4⟩ := h
  have hlen := h4 [(0, 0, 97), (7, 1, 0)] (by simp only [List.mem_cons, List.not_mem_nil, or_false]; rintro m (rfl | rfl) <;> exact ⟨by decide, by decide, by decide⟩) (by decide)
  clear h4
  have h1' : expF out (List.take 0 [97, 97, 97, 97, 97, 97, 97, 97]) = ([97, 97, 97, 97, 97, 97, 97, 97], 0) := h1
  cases out with
  | nil => exact absurd (exp_nil (s := _) (p := 0) (by decide) h1') (by decide)
  | cons m0 out =>
    rcases exp_first (by decide) h1' (h2 _ (by simp)) with ⟨x, e1, rfl, k0⟩ | ⟨n, d, a1, a2, a3, a4, _⟩
    rotate_left
    · omega
    cases out with
    | nil => exact absurd (exp_nil (by decide) k0) (by decide)
    | cons m1 out => simp at hlen ⊢; omega
end Go.Proofs.Ytnejhldagkennaa.lz
