/-
  Several texts in one: LeastLaw, LeastH, LeastW.
-/
import Derived.Test.YtppnaofebkpbkaaMergeLaw
import Derived.Test.YtppnaofebkpbkaaHuffComes
import Derived.Test.YtppnaofebkpbkaaSlMany2
/-
  HuffLeast: what the document's table of levels answers is the least cost (no program).
-/
namespace Go.Proofs.Ytppnaofebkpbkaa.huff
open Go.RowKit kit sl Go.Proofs.Ytppnaofebkpbkaa.pm
set_option linter.unusedVariables false
/-- a code may be given so that the rarer have the longer words -/
theorem sorted_code (M : Nat) : ∀ (W : List Int) (P : List (Int × Nat)), W.Pairwise (fun a b => a ≤ b) → (P.map Prod.fst).Perm W → ∃ Q : List (Int × Nat), (Q.map Prod.fst = W ∧ krP M Q = krP M P) ∧ cstP Q ≤ cstP P ∧ (Q.Pairwise fun a b => b.2 ≤ a.2) ∧ ∀ q ∈ Q, ∃ p ∈ P, p.2 = q.2
  | [], P, _, h => by
    have hl := h.length_eq
    rw [List.length_map] at hl
    have hP : P = [] := List.length_eq_zero_iff.1 hl
    subst hP
    exact ⟨[], ⟨rfl, rfl⟩, Int.le_refl _, List.Pairwise.nil, fun q hq => absurd hq List.not_mem_nil⟩
  | u :: W, P, hs, h => by
    obtain ⟨h1, h2⟩ := List.pairwise_cons.1 hs
    obtain ⟨lu, R, p1, w1⟩ := take_out h
    have hR : ∀ p ∈ R, u ≤ p.1 := fun p hp => h1 _ (w1.mem_iff.1 (List.mem_map.2 ⟨p, hp, rfl⟩))
    obtain ⟨t, R2, ⟨w2, k2⟩, c2, m2, f2⟩ := swap (lu := lu) M hR
    obtain ⟨Q, ⟨q1, q2⟩, q3, q4, q5⟩ := sorted_code M W R2 h2 (w2.trans w1)
    refine ⟨(u, t) :: Q, ⟨by rw [List.map_cons, q1], ?_⟩, ?_, List.pairwise_cons.2 ⟨fun q hq => ?_, q4⟩, fun q hq => ?_⟩
    · rw [krP_perm M p1, ← k2]
      simp only [krP, q2]
    · rw [cstP_perm p1]
      refine Int.le_trans ?_ c2
      simp only [cstP]
      omega
    · obtain ⟨p, hp, e⟩ := q5 q hq
      have := m2 p hp
      rw [e] at this
      exact this
    · have h0 : ∀ q ∈ (u, t) :: R2, ∃ p ∈ P, p.2 = q.2 := fun q hq => by
        obtain ⟨p, hp, e⟩ := f2 q hq
        exact ⟨p, p1.mem_iff.2 hp, e⟩
      rcases List.mem_cons.1 hq with e | hq
      · rw [e]
        exact h0 _ List.mem_cons_self
      · obtain ⟨p, hp, e⟩ := q5 q hq
        obtain ⟨p', hp', e'⟩ := h0 p (List.mem_cons_of_mem _ hp)
        exact ⟨p', hp', e'.trans e⟩
def sumL : List Int → Int
  | [] => 0
  | w :: l => w + sumL l
/-- the ways of the table: w (what is left of the signs), e open ends, r levels left, clipped at n -/
inductive Way (n : Nat) : Nat → Nat → List Int → Int → Prop
  | done (r e : Nat) : Way n r e [] 0
  | step {r e t : Nat} {w : List Int} {c : Int} (h : w ≠ []) (ht : t ≤ e) (hl : t ≤ w.length) (k : Way n r (min n (2 * (e - t))) (w.drop t) c) : Way n (r + 1) e w (c + sumL (w.drop t))
/-- depths of the signs w: nobody deeper than r - 1; room for them below e ends -/
def Room (r e : Nat) (P : List (Int × Nat)) : Prop := (∀ p ∈ P, p.2 + 1 ≤ r) ∧ krP (r - 1) P ≤ e * 2 ^ (r - 1)
theorem kr_up {M : Nat} : ∀ {P : List (Int × Nat)}, krP (M + 1) (P.map fun p => (p.1, p.2 + 1)) = krP M P
  | [] => rfl
  | p :: P => by
    simp only [List.map_cons, krP, kr_up (P := P)]
    rw [show M + 1 - (p.2 + 1) = M - p.2 by omega]
theorem cst_up : ∀ {P : List (Int × Nat)}, cstP (P.map fun p => (p.1, p.2 + 1)) = cstP P + sumL (P.map Prod.fst)
  | [] => rfl
  | p :: P => by
    simp only [List.map_cons, cstP, sumL, cst_up (P := P)]
    rw [Int.natCast_add, Int.mul_add]
    simp only [Int.natCast_one, Int.mul_one]
    omega
theorem kr_app (M : Nat) : ∀ a b : List (Int × Nat), krP M (a ++ b) = krP M a + krP M b
  | [], b => by simp [krP]
  | p :: a, b => by simp only [List.cons_append, krP, kr_app M a b]; omega
theorem cst_app : ∀ a b : List (Int × Nat), cstP (a ++ b) = cstP a + cstP b
  | [], b => by simp [cstP]
  | p :: a, b => by simp only [List.cons_append, cstP, cst_app a b]; omega
theorem kr_zero (M : Nat) : ∀ w : List Int, krP M (w.map fun x => (x, 0)) = w.length * 2 ^ M
  | [] => by simp [krP]
  | x :: w => by
    simp only [List.map_cons, krP, kr_zero M w, List.length_cons, Nat.sub_zero, Nat.succ_mul]
    omega
theorem cst_zero : ∀ w : List Int, cstP (w.map fun x => (x, 0)) = 0
  | [] => rfl
  | x :: w => by simp only [List.map_cons, cstP, cst_zero w]; simp
/-- a way is a code -/
theorem way_code {n : Nat} : ∀ {r e : Nat} {w : List Int} {c : Int}, Way n r e w c → ∃ P : List (Int × Nat), P.map Prod.fst = w ∧ Room r e P ∧ cstP P = c := by
  intro r e w c h
  induction h with
  | done r e => exact ⟨[], rfl, ⟨fun p hp => absurd hp List.not_mem_nil, Nat.zero_le _⟩, rfl⟩
  | @step r e t w c hw ht hl k ih =>
    obtain ⟨P, p1, ⟨p2, p3⟩, p4⟩ := ih
    refine ⟨(w.take t).map (fun x => (x, 0)) ++ P.map (fun p => (p.1, p.2 + 1)), ?_, ⟨fun p hp => ?_, ?_⟩, ?_⟩
    · rw [List.map_append, List.map_map, List.map_map]
      have e1 : (w.take t).map (Prod.fst ∘ fun x : Int => (x, 0)) = w.take t := by
        rw [show (Prod.fst ∘ fun x : Int => (x, (0 : Nat))) = id from rfl, List.map_id]
      have e2 : P.map (Prod.fst ∘ fun p : Int × Nat => (p.1, p.2 + 1)) = P.map Prod.fst := rfl
      rw [e1, e2, p1, List.take_append_drop]
    · rcases List.mem_append.1 hp with hp | hp
      · obtain ⟨x, _, e⟩ := List.mem_map.1 hp
        rw [← e]
        exact Nat.succ_le_succ (Nat.zero_le _)
      · obtain ⟨q, hq, e⟩ := List.mem_map.1 hp
        have := p2 q hq
        rw [← e]
        exact Nat.succ_le_succ this
    · rw [kr_app, kr_zero, List.length_take, Nat.min_eq_left hl, Nat.add_sub_cancel]
      cases r with
      | zero =>
        have hP : P = [] := by
          cases P with
          | nil => rfl
          | cons q P => exact absurd (p2 q List.mem_cons_self) (by omega)
        subst hP
        simp only [List.map_nil, krP, Nat.add_zero]
        exact Nat.mul_le_mul_right _ ht
      | succ r =>
        rw [kr_up]
        rw [Nat.add_sub_cancel] at p3
        have h1 : min n (2 * (e - t)) * 2 ^ r ≤ (2 * (e - t)) * 2 ^ r := Nat.mul_le_mul_right _ (Nat.min_le_right _ _)
        have h2 : e * 2 ^ (r + 1) = t * 2 ^ (r + 1) + (2 * (e - t)) * 2 ^ r := by
          rw [Nat.pow_succ, show 2 * (e - t) * 2 ^ r = (e - t) * (2 ^ r * 2) by rw [Nat.mul_comm 2, Nat.mul_assoc, Nat.mul_comm 2], ← Nat.add_mul]
          congr 1
          omega
        omega
    · rw [cst_app, cst_zero, cst_up, p1, p4]
      omega
theorem kr_le (M : Nat) : ∀ P : List (Int × Nat), krP M P ≤ P.length * 2 ^ M
  | [] => Nat.zero_le _
  | p :: P => by
    have h1 := kr_le M P
    have h2 : 2 ^ (M - p.2) ≤ 2 ^ M := Nat.pow_le_pow_right (by decide) (Nat.sub_le _ _)
    rw [krP, List.length_cons, Nat.succ_mul]
    omega
def Rise (P : List (Int × Nat)) : Prop := P.Pairwise fun a b => a.2 ≤ b.2
theorem split_zero : ∀ P : List (Int × Nat), Rise P → ∃ (z : List Int) (R : List (Int × Nat)), P = z.map (fun x => (x, 0)) ++ R.map (fun p => (p.1, p.2 + 1)) ∧ Rise R
  | [], _ => ⟨[], [], rfl, List.Pairwise.nil⟩
  | p :: P, h => by
    obtain ⟨h1, h2⟩ := List.pairwise_cons.1 h
    by_cases h0 : p.2 = 0
    · obtain ⟨z, R, e, hR⟩ := split_zero P h2
      refine ⟨p.1 :: z, R, ?_, hR⟩
      rw [List.map_cons, List.cons_append, ← e, ← h0]
    · refine ⟨[], (p :: P).map fun q => (q.1, q.2 - 1), ?_, ?_⟩
      · rw [List.map_map, List.map_nil, List.nil_append]
        have : ∀ q ∈ p :: P, ((fun p : Int × Nat => (p.1, p.2 + 1)) ∘ fun q : Int × Nat => (q.1, q.2 - 1)) q = q := fun q hq => by
          have hq1 : 1 ≤ q.2 := by
            rcases List.mem_cons.1 hq with e | hq
            · rw [e]; omega
            · have := h1 q hq
              omega
          show (q.1, q.2 - 1 + 1) = q
          rw [Nat.sub_add_cancel hq1]
        rw [List.map_congr_left this]
        simp
      · refine List.Pairwise.map _ (fun a b hab => ?_) h
        show a.2 - 1 ≤ b.2 - 1
        omega
/-- a code whose words get longer is a way -/
theorem code_way {n : Nat} : ∀ (r e : Nat) (P : List (Int × Nat)), P.length ≤ n → Rise P → Room r e P → Way n r e (P.map Prod.fst) (cstP P)
  | 0, e, P, _, _, h => by
    have hP : P = [] := by
      cases P with
      | nil => rfl
      | cons q P => exact absurd (h.1 q List.mem_cons_self) (by omega)
    subst hP
    exact Way.done 0 e
  | r + 1, e, P, hn, hs, h => by
    by_cases hP : P = []
    · subst hP
      exact Way.done _ _
    obtain ⟨z, R, e1, hR⟩ := split_zero P hs
    have hk := h.2
    rw [Nat.add_sub_cancel, e1, kr_app, kr_zero] at hk
    have hpos := Nat.two_pow_pos r
    have hze : z.length ≤ e := Nat.le_of_mul_le_mul_right (Nat.le_trans (Nat.le_add_right _ _) hk) hpos
    have hl : P.length = z.length + R.length := by rw [e1, List.length_append, List.length_map, List.length_map]
    have ew : P.map Prod.fst = z ++ R.map Prod.fst := by
      rw [e1, List.map_append, List.map_map, List.map_map]
      congr 1
      exact List.map_id _
    have ed : (P.map Prod.fst).drop z.length = R.map Prod.fst := by rw [ew, List.drop_left' rfl]
    have ec : cstP P = cstP R + sumL (R.map Prod.fst) := by
      rw [e1, cst_app, cst_zero, cst_up]
      omega
    have hroom : Room r (min n (2 * (e - z.length))) R := by
      refine ⟨fun q hq => ?_, ?_⟩
      · have := h.1 (q.1, q.2 + 1) (by rw [e1]; exact List.mem_append.2 (.inr (List.mem_map.2 ⟨q, hq, rfl⟩)))
        dsimp only at this
        omega
      · cases r with
        | zero =>
          have hR0 : R = [] := by
            cases R with
            | nil => rfl
            | cons q R =>
              have := h.1 (q.1, q.2 + 1) (by rw [e1]; exact List.mem_append.2 (.inr (List.mem_map.2 ⟨q, List.mem_cons_self, rfl⟩)))
              dsimp only at this
              omega
          rw [hR0]
          exact Nat.zero_le _
        | succ s =>
          rw [kr_up] at hk
          rw [Nat.add_sub_cancel]
          have h1 := kr_le s R
          have h2 : R.length * 2 ^ s ≤ n * 2 ^ s := Nat.mul_le_mul_right _ (by omega)
          have h3 : e * 2 ^ (s + 1) = z.length * 2 ^ (s + 1) + (2 * (e - z.length)) * 2 ^ s := by
            rw [Nat.pow_succ, show 2 * (e - z.length) * 2 ^ s = (e - z.length) * (2 ^ s * 2) by rw [Nat.mul_comm 2, Nat.mul_assoc, Nat.mul_comm 2], ← Nat.add_mul]
            congr 1
            omega
          rcases Nat.le_total n (2 * (e - z.length)) with g | g
          · rw [Nat.min_eq_left g]
            omega
          · rw [Nat.min_eq_right g]
            omega
    have ih := code_way (n := n) r _ R (by omega) hR hroom
    rw [ec, ← ed]
    refine Way.step (fun e => hP (List.map_eq_nil_iff.1 e)) hze (by rw [List.length_map]; omega) ?_
    rw [ed]
    exact ih
def neverI : Int := 1152921504606846976
/-- one cell of the next table: the first T ways to put t signs here -/
def cellI (best : Nat → Nat → Int) (w : List Int) (n e k : Nat) : Nat → Int
  | 0 => neverI
  | t + 1 => if best (min n (2 * (e - t))) (k + t) < neverI then min (cellI best w n e k t) (best (min n (2 * (e - t))) (k + t) + sumL (w.drop (k + t))) else cellI best w n e k t
def bestI (w : List Int) (n : Nat) : Nat → Nat → Nat → Int
  | 0, _, k => if k < n then neverI else 0
  | r + 1, e, k => if k < n then cellI (bestI w n r) w n e k (min e (n - k) + 1) else 0
theorem cell_le (best : Nat → Nat → Int) (w : List Int) (n e k : Nat) : ∀ T, cellI best w n e k T ≤ neverI
  | 0 => Int.le_refl _
  | t + 1 => by
    have := cell_le best w n e k t
    rw [cellI]
    split <;> omega
theorem cell_low (best : Nat → Nat → Int) (w : List Int) (n e k : Nat) : ∀ T t, t < T → best (min n (2 * (e - t))) (k + t) < neverI → cellI best w n e k T ≤ best (min n (2 * (e - t))) (k + t) + sumL (w.drop (k + t))
  | 0, t, h, _ => absurd h (Nat.not_lt_zero _)
  | T + 1, t, h, hb => by
    rw [cellI]
    rcases Nat.lt_or_ge t T with g | g
    · have := cell_low best w n e k T t g hb
      split <;> omega
    · have e1 : t = T := by omega
      subst e1
      rw [if_pos hb]
      omega
theorem cell_at (best : Nat → Nat → Int) (w : List Int) (n e k : Nat) : ∀ T, cellI best w n e k T < neverI → ∃ t, t < T ∧ best (min n (2 * (e - t))) (k + t) < neverI ∧ cellI best w n e k T = best (min n (2 * (e - t))) (k + t) + sumL (w.drop (k + t))
  | 0, h => absurd h (Int.lt_irrefl _)
  | T + 1, h => by
    rw [cellI] at h ⊢
    by_cases hb : best (min n (2 * (e - T))) (k + T) < neverI
    · rw [if_pos hb] at h ⊢
      rcases Int.le_total (cellI best w n e k T) (best (min n (2 * (e - T))) (k + T) + sumL (w.drop (k + T))) with g | g
      · rw [Int.min_eq_left g] at h ⊢
        obtain ⟨t, h1, h2, h3⟩ := cell_at best w n e k T h
        exact ⟨t, by omega, h2, h3⟩
      · rw [Int.min_eq_right g]
        exact ⟨T, by omega, hb, rfl⟩
    · rw [if_neg hb] at h ⊢
      obtain ⟨t, h1, h2, h3⟩ := cell_at best w n e k T h
      exact ⟨t, by omega, h2, h3⟩
theorem best_way {w : List Int} {n : Nat} (hn : w.length = n) : ∀ r e k, k ≤ n → bestI w n r e k < neverI → Way n r e (w.drop k) (bestI w n r e k)
  | 0, e, k, hk, h => by
    rw [bestI] at h ⊢
    by_cases hkn : k < n
    · rw [if_pos hkn] at h
      exact absurd h (Int.lt_irrefl _)
    · rw [if_neg hkn, List.drop_eq_nil_of_le (by omega)]
      exact Way.done _ _
  | r + 1, e, k, hk, h => by
    rw [bestI] at h ⊢
    by_cases hkn : k < n
    · rw [if_pos hkn] at h ⊢
      obtain ⟨t, h1, h2, h3⟩ := cell_at _ w n e k _ h
      rw [h3, ← List.drop_drop]
      refine Way.step (fun e0 => ?_) (by omega) (by rw [List.length_drop]; omega) ?_
      · have := congrArg List.length e0
        rw [List.length_drop] at this
        simp only [List.length_nil] at this
        omega
      · rw [List.drop_drop]
        exact best_way hn r _ _ (by omega) h2
    · rw [if_neg hkn, List.drop_eq_nil_of_le (by omega)]
      exact Way.done _ _
theorem sumL_nonneg : ∀ {l : List Int}, (∀ x ∈ l, 0 ≤ x) → 0 ≤ sumL l
  | [], _ => Int.le_refl _
  | x :: l, h => by
    have h1 := h x List.mem_cons_self
    have h2 := sumL_nonneg fun y hy => h y (List.mem_cons_of_mem _ hy)
    rw [sumL]
    omega
theorem way_best {w : List Int} {n : Nat} (hn : w.length = n) (hw : ∀ x ∈ w, 0 ≤ x) : ∀ r e k c, k ≤ n → Way n r e (w.drop k) c → c < neverI → bestI w n r e k ≤ c
  | 0, e, k, c, hk, h, hc => by
    generalize hv : w.drop k = v at h
    cases h with
    | done =>
      have := congrArg List.length hv
      rw [List.length_drop] at this
      simp only [List.length_nil] at this
      rw [bestI, if_neg (by omega)]
      exact Int.le_refl _
  | r + 1, e, k, c, hk, h, hc => by
    generalize hv : w.drop k = v at h
    cases h with
    | done =>
      have := congrArg List.length hv
      rw [List.length_drop] at this
      simp only [List.length_nil] at this
      rw [bestI, if_neg (by omega)]
      exact Int.le_refl _
    | @step _ _ t _ c' h1 h2 h3 h4 =>
      subst hv
      rw [List.length_drop] at h3
      have hkn : k < n := by
        rcases Nat.lt_or_ge k n with g | g
        · exact g
        · exact absurd (List.drop_eq_nil_of_le (by omega)) h1
      rw [List.drop_drop] at h4 hc ⊢
      have h0 : 0 ≤ sumL (w.drop (k + t)) := sumL_nonneg fun x hx => hw x (List.mem_of_mem_drop hx)
      have ih := way_best hn hw r _ _ _ (by omega) h4 (by omega)
      rw [bestI, if_pos hkn]
      have := cell_low (bestI w n r) w n e k (min e (n - k) + 1) t (by omega) (by omega)
      omega
/-- what the table answers is the least cost -/
theorem table_least {W : List Int} {n M : Nat} {c : Int} (h : Least W M c) (hn : W.length = n) (h2 : 2 ≤ n) (hf : W.Pairwise fun a b => b ≤ a) (hw : ∀ x ∈ W, 0 ≤ x) (hc : c < neverI) : bestI W n (M + 1) 1 0 = c := by
  obtain ⟨⟨P, p1, p2, p3⟩, hmin⟩ := h
  have hle : bestI W n (M + 1) 1 0 ≤ c := by
    obtain ⟨Q, ⟨q1, q2⟩, q3, q4, q5⟩ := sorted_code M W.reverse P (List.pairwise_reverse.2 hf) (p1.trans (List.reverse_perm W).symm)
    have hQ := List.reverse_perm Q
    have hmap : Q.reverse.map Prod.fst = W := by rw [List.map_reverse, q1, List.reverse_reverse]
    have hway := code_way (n := n) (M + 1) 1 Q.reverse (by
      have := congrArg List.length hmap
      rw [List.length_map] at this
      omega) (List.pairwise_reverse.2 q4) ⟨fun q hq => by
        obtain ⟨p, hp, e⟩ := q5 q (hQ.mem_iff.1 hq)
        have := (p2.1 p hp).2
        omega, by
        rw [Nat.add_sub_cancel, krP_perm M hQ, q2, Nat.one_mul]
        exact p2.2⟩
    rw [hmap, cstP_perm hQ] at hway
    have := way_best hn hw (M + 1) 1 0 _ (Nat.zero_le _) hway (by omega)
    omega
  have hway := best_way hn (M + 1) 1 0 (Nat.zero_le _) (by omega)
  obtain ⟨Q, q1, ⟨q2, q3⟩, q4⟩ := way_code hway
  rw [List.drop_zero] at q1
  rw [Nat.add_sub_cancel, Nat.one_mul] at q3
  have hQl : Q.length = n := by rw [← hn, ← q1, List.length_map]
  have hcod : CodP M Q := ⟨fun q hq => ⟨by
    rcases Nat.eq_zero_or_pos q.2 with g | g
    · exfalso
      have hp := List.perm_cons_erase hq
      have hl := hp.length_eq
      rw [krP_perm M hp, krP, g, Nat.sub_zero] at q3
      cases hE : Q.erase q with
      | nil =>
        rw [hE] at hl
        simp only [List.length_cons, List.length_nil] at hl
        omega
      | cons r R =>
        rw [hE, krP] at q3
        have := Nat.two_pow_pos (M - r.2)
        omega
    · exact g, by have := q2 q hq; omega⟩, q3⟩
  have := hmin Q (by rw [q1]) hcod
  omega
end Go.Proofs.Ytppnaofebkpbkaa.huff
/-
  HuffLeast: what the law compares (no program).
-/
namespace Go.Proofs.Ytppnaofebkpbkaa.huff
open Go.RowKit kit sl Go.Proofs.Ytppnaofebkpbkaa.pm
set_option linter.unusedVariables false
def leastF (W : List Int) (M : Nat) : Int := if W.length = 0 then 0 else if W.length = 1 then W.headD 0 else bestI W W.length (M + 1) 1 0
theorem least_none {M : Nat} {c : Int} (h : Least [] M c) : c = 0 := by
  obtain ⟨⟨P, p1, _, p3⟩, _⟩ := h
  have hl := p1.length_eq
  rw [List.length_map] at hl
  have hP : P = [] := List.length_eq_zero_iff.1 hl
  subst hP
  exact p3.symm
theorem least_single {M : Nat} {c w : Int} (h : Least [w] M c) (hM : 1 ≤ M) (hw : 0 ≤ w) : c = w := by
  obtain ⟨⟨P, p1, p2, p3⟩, hmin⟩ := h
  obtain ⟨l, R, q1, q2⟩ := take_out p1
  have hl := q2.length_eq
  rw [List.length_map] at hl
  have hR : R = [] := List.length_eq_zero_iff.1 hl
  subst hR
  have hl1 := (p2.1 (w, l) (q1.mem_iff.2 List.mem_cons_self)).1
  dsimp only at hl1
  rw [cstP_perm q1] at p3
  simp only [cstP] at p3
  have h1 : w * 1 ≤ w * (l : Int) := Int.mul_le_mul_of_nonneg_left (by omega) hw
  have h2 := hmin [(w, 1)] (List.Perm.refl _) ⟨fun p hp => by
    rw [List.mem_singleton.1 hp]
    exact ⟨Nat.le_refl _, hM⟩, by
    show 2 ^ (M - 1) + 0 ≤ 2 ^ M
    exact Nat.pow_le_pow_right (by decide) (Nat.sub_le _ _)⟩
  simp only [cstP] at h2
  omega
theorem comes_pos {F : List Int} (h : GoodF F) : ∀ w ∈ comes F F.length, 0 < w ∧ w ≤ 1048576 := fun w hw => by
  have h0 := fun i => wF_nonneg (fun f hf => (h.2 f hf).1) i
  obtain ⟨i, hi, e⟩ := List.mem_map.1 ((comes_perm h0 F.length).mem_iff.1 hw)
  obtain ⟨h1, h2⟩ := pos_mem.1 hi
  refine ⟨by omega, ?_⟩
  have e2 : wF F i = F[i] := by unfold wF; rw [List.getD_eq_getElem?_getD, List.getElem?_eq_getElem h1]; rfl
  rw [← e, e2]
  exact (h.2 _ (List.getElem_mem h1)).2
theorem dot_bound {F O : List Int} (hF : ∀ f ∈ F, 0 ≤ f ∧ f ≤ 1048576) (hO : ∀ o ∈ O, 0 ≤ o ∧ o ≤ 15) : ∀ k, k ≤ F.length → k ≤ O.length → 0 ≤ dotK F O k ∧ dotK F O k ≤ 15728640 * (k : Int)
  | 0, _, _ => by
    show (0 : Int) ≤ 0 ∧ (0 : Int) ≤ 15728640 * ((0 : Nat) : Int)
    decide
  | k + 1, h1, h2 => by
    obtain ⟨f, hf⟩ : ∃ f, F[k]? = some f := ⟨_, List.getElem?_eq_getElem h1⟩
    obtain ⟨o, ho⟩ : ∃ o, O[k]? = some o := ⟨_, List.getElem?_eq_getElem h2⟩
    have hff := hF f (List.mem_of_getElem? hf)
    have hoo := hO o (List.mem_of_getElem? ho)
    have m1 : f * o ≤ 1048576 * 15 := Int.le_trans (Int.mul_le_mul_of_nonneg_right hff.2 hoo.1) (Int.mul_le_mul_of_nonneg_left hoo.2 (by decide))
    have m0 : 0 ≤ f * o := Int.mul_nonneg hff.1 hoo.1
    have ih := dot_bound hF hO k (by omega) (by omega)
    rw [dot_next hf ho]
    omega
theorem cost_bound {F : List Int} {most : Int} : -1 ≤ costC F most ∧ costC F most ≤ 5033164800 := by
  by_cases h : lensE F most = 0
  · have hg := (lensE_zero h).1
    have hl := lens_len F most
    have := dot_bound hg.2 (lens_in h) F.length (Nat.le_refl _) (by omega)
    have h3 := hg.1
    unfold costC
    rw [if_pos h]
    omega
  · unfold costC
    rw [if_neg h]
    omega
/-- the least cost is what the document's table answers -/
theorem least_answer {F : List Int} {most : Int} (h : lensE F most = 0) : costC F most = leastF (comes F F.length) most.toNat := by
  obtain ⟨hg, hm1, hm15, _⟩ := lensE_zero h
  have h0 := fun i => wF_nonneg (fun f hf => (hg.2 f hf).1) i
  have hw := comes_pos hg
  have hf := comes_fall F F.length
  have hb := cost_bound (F := F) (most := most)
  have hl : Least (comes F F.length) most.toNat (costC F most) := by
    obtain ⟨l, hok, e, _⟩ := cost_is h
    rw [e]
    exact least_perm (comes_perm h0 F.length).symm (least_of hok)
  generalize comes F F.length = W at *
  generalize costC F most = c at *
  unfold leastF
  by_cases e0 : W.length = 0
  · rw [if_pos e0]
    have : W = [] := List.length_eq_zero_iff.1 e0
    subst this
    exact least_none hl
  · rw [if_neg e0]
    by_cases e1 : W.length = 1
    · rw [if_pos e1]
      obtain ⟨w, e⟩ := List.length_eq_one_iff.1 e1
      subst e
      have := (hw w List.mem_cons_self).1
      show c = w
      exact least_single hl (by omega) (by omega)
    · rw [if_neg e1]
      exact (table_least hl rfl (by omega) hf (fun x hx => by have := (hw x hx).1; omega) (by unfold neverI; omega)).symm
end Go.Proofs.Ytppnaofebkpbkaa.huff
/-
  linenref.Least: the walk (under way: the sums of what is left are walked; then the tables).
-/
namespace Go.Proofs.Ytppnaofebkpbkaa.huff
open Go.RowKit kit sl Go.Proofs.Ytppnaofebkpbkaa.pm
set_option linter.unusedVariables false
def leftL (W : List Int) (n i : Nat) : List Int := (List.range (n + 1)).map fun j => if j < i then 0 else sumL (W.drop j)
theorem left_len (W : List Int) (n i : Nat) : (leftL W n i).length = n + 1 := by simp [leftL]
theorem left_at {W : List Int} {n i j : Nat} (h : j < n + 1) : (leftL W n i)[j]? = some (if j < i then 0 else sumL (W.drop j)) := by
  unfold leftL
  rw [List.getElem?_map, List.getElem?_range h]
  rfl
theorem left_start {W : List Int} {n : Nat} (hn : W.length = n) : leftL W n n = List.replicate (n + 1) 0 := by
  apply List.ext_getElem?
  intro j
  rw [List.getElem?_replicate]
  rcases Nat.lt_or_ge j (n + 1) with h | h
  · rw [left_at h, if_pos h]
    rcases Nat.lt_or_ge j n with g | g
    · rw [if_pos g]
    · rw [if_neg (by omega), List.drop_eq_nil_of_le (by omega)]
      rfl
  · rw [if_neg (by omega), List.getElem?_eq_none (by rw [left_len]; exact h)]
theorem left_set {W : List Int} {n i : Nat} {x : Int} (hn : W.length = n) (hi : i < n) (hx : W[i]? = some x) : (leftL W n (i + 1)).set i (sumL (W.drop (i + 1)) + x) = leftL W n i := by
  obtain ⟨h1, h2⟩ := List.getElem?_eq_some_iff.1 hx
  apply List.ext_getElem?
  intro j
  rcases Nat.lt_or_ge j (n + 1) with h | h
  · rw [List.getElem?_set, left_at h, left_at h, left_len]
    by_cases e : i = j
    · subst e
      rw [if_pos rfl, if_pos h, if_neg (by omega), List.drop_eq_getElem_cons h1, h2, sumL, Int.add_comm]
    · rw [if_neg e]
      congr 1
      by_cases g : j < i
      · rw [if_pos (by omega), if_pos g]
      · rw [if_neg (by omega), if_neg g]
  · rw [List.getElem?_eq_none (by rw [List.length_set, left_len]; exact h), List.getElem?_eq_none (by rw [left_len]; exact h)]
theorem sum_bd : ∀ {l : List Int}, (∀ x ∈ l, 0 < x ∧ x ≤ 1048576) → 0 ≤ sumL l ∧ sumL l ≤ 1048576 * (l.length : Int)
  | [], _ => by decide
  | x :: l, h => by
    have h1 := h x List.mem_cons_self
    have h2 := sum_bd fun y hy => h y (List.mem_cons_of_mem _ hy)
    rw [sumL, List.length_cons]
    omega
theorem many_nil (sz : Nat) (H : List Ent) : HSub H (many sz [] :: H) := fun w hw =>
  HeapOk.shared hw rfl (fun p hp => absurd hp List.not_mem_nil) fun k hk => by
    obtain ⟨p, hp, _⟩ := hk
    cases hp
theorem many_one {sz : Nat} {H R : List Ent} {v : Value} {rows : List (List Value)} (p : Pick (sl sz v rows) H R) : HSub H (many sz [(v, rows)] :: R) :=
  heap_less p ⟨rfl, fun w hw x hx => by
    rw [List.mem_singleton.1 hx]
    exact hw.1 _ List.mem_cons_self, fun b hb => by
    obtain ⟨x, hx, hb⟩ := hb
    rw [List.mem_singleton.1 hx] at hb
    exact ⟨_, List.mem_cons_self, hb⟩⟩
attribute [local irreducible] box own sl old bptr eptr Qt Opr Run Cod Pst Drn
set_option maxRecDepth 100000 in
set_option maxHeartbeats 8000000 in
theorem least_small (q : Option Addr) (c : Nat) (W : List Int) (M : Nat) (hM : 1 ≤ M ∧ M ≤ 15) (hn : W.length < 2) :
    Ct Try.prog 11 [.slice q W.length c, .int .i64 (M : Int)] [sl 1 (.slice q W.length c) (W.map fI)] fun v H' => v = .int .i64 (leastF W M) ∧ H' = [] := by
  rcases Nat.eq_zero_or_pos W.length with h0 | h0
  · have e : leastF W M = 0 := by unfold leastF; rw [if_pos h0]
    rw [e]
    (refine spec_enter Try.func11 Try.ntmps11 rfl rfl fun Fr => ?_; dsimp only [List.cons_append, List.nil_append, ini, Nat.reduceAdd])
    (repeat' (first | (apply run_qg 1; (focus rfl); (focus exact wt); (focus rfl); (focus (exact qg1))) | (apply run_qg 2; (focus rfl); (focus exact wt); (focus rfl); (focus (first | exact qg2 | exact qs2))) | (apply run_qg 3; (focus rfl); (focus exact wt); (focus rfl); (focus (first | exact qg3 | exact qs3))) | (apply run_qg 4; (focus rfl); (focus exact wt); (focus rfl); (focus (first | exact qg4 | exact qs4))) | (apply run_qg 5; (focus rfl); (focus exact wt); (focus rfl); (focus (exact qg5))) | (apply run_qg 6; (focus rfl); (focus exact wt); (focus rfl); (focus (first | exact qs6 | exact qg6 | exact q_max rfl rfl rfl | exact q_sliceData rfl rfl (by omega) | exact q_sliceDataN rfl rfl | exact q_unsafeStringN rfl rfl rfl | exact q_cap_slice rfl rfl))) | (apply run_qg 11; (focus rfl); (focus exact wt); (focus rfl); (focus (exact qs11))) | (apply run_qg 12; (focus rfl); (focus exact wt); (focus rfl); (focus (first | exact qs12 | exact q_cutp rfl rfl rfl rfl (by omega) (by omega) | exact q_slice_cap rfl rfl rfl rfl (by omega)))) | refine cod_seq ?_ | refine cod_region ?_ | refine run_nil ?_ | refine pst_then ?_ | (apply cod_cond_t; (focus rfl)) | (apply cod_cond_f; (focus rfl)) | refine cod_block ?_ | refine cod_exit ?_ | refine cod_ret ?_ | refine cod_skip ?_ | refine pst_block_here ?_ | refine pst_block_out rfl ?_ | refine pst_block_ret ?_ | refine pst_then_exit ?_ | refine pst_then_ret ?_ | refine pst_block ?_ | (apply run_osg 8; (focus rfl); (focus exact wt); (focus rfl); (focus (exact opr_box_agg rfl rfl)); (rintro _ _ ⟨b, rfl, rfl⟩)) | (apply run_osg 8; (focus rfl); (focus exact wt); (focus rfl); (focus (exact opr_box_one rfl rfl rfl)); (rintro _ _ ⟨b, rfl, rfl⟩)) | (apply run_osg 8; (focus rfl); (focus exact wt); (focus rfl); (focus (exact opr_new rfl)); (rintro _ _ ⟨b, rfl, rfl⟩)) | (apply run_ong 9; (focus rfl); (focus exact wt); (focus (exact opr_store_box_agg rfl rfl rfl (by exact pka) rfl rfl rfl (by exact spla))); (rintro _ _ ⟨rfl, rfl⟩)) | (apply run_ong 9; (focus rfl); (focus exact wt); (focus (exact opr_store_box_one rfl rfl rfl rfl (by exact pka) rfl (by exact seta))); (rintro _ _ ⟨rfl, rfl⟩)) | (apply run_osg 10; (focus rfl); (focus exact wt); (focus rfl); (focus (exact opr_buildSlice rfl rfl rfl (by exact blda) rfl rfl (by decide) rfl)); (rintro _ _ ⟨q, rfl, rfl⟩)) | refine cod_scope ?_ | refine pst_scope ?_ | refine pst_scope_ret ?_ | refine pst_scope_exit ?_ | refine cod_label ?_ | (apply run_offs; (focus rfl); (focus rfl); (focus rfl)) | (apply run_offn; (focus rfl); (focus rfl)) | (apply run_offus; (focus rfl); (focus rfl); (focus rfl)) | (apply run_offun; (focus rfl); (focus rfl)) | (apply cod_drawn_k; (focus kernel_rfl); (focus (simp only [List.length_cons, List.length_nil, Nat.reduceAdd]; rfl))) | ((first | (apply run_lss; (rotate_left 2); (focus rfl)) | (apply run_leq; (rotate_left 2); (focus rfl)) | (apply run_gtr; (rotate_left 2); (focus rfl)) | (apply run_geq; (rotate_left 2); (focus rfl)) | (apply run_eql; (rotate_left 2); (focus rfl)) | (apply run_neq; (rotate_left 2); (focus rfl)) | (apply run_seq; (rotate_left 2); (focus rfl)) | (apply run_sneq; (rotate_left 2); (focus rfl))); (focus rfl); (focus rfl); (rotate_right 2); (focus exact wt); (focus rfl); (all_goals (intro h; dsimp only [upd]))) | (apply drnK_take 1; (focus rfl); (focus rfl); (focus exact wt); (focus (decide +kernel)); (focus exact hsq); (focus rfl); (focus (exact qg1))) | (apply drnK_take 2; (focus rfl); (focus rfl); (focus exact wt); (focus (decide +kernel)); (focus exact hsq); (focus rfl); (focus (first | exact qg2 | exact qs2))) | (apply drnK_take 3; (focus rfl); (focus rfl); (focus exact wt); (focus (decide +kernel)); (focus exact hsq); (focus rfl); (focus (first | exact qg3 | exact qs3))) | (apply drnK_take 4; (focus rfl); (focus rfl); (focus exact wt); (focus (decide +kernel)); (focus exact hsq); (focus rfl); (focus (first | exact qg4 | exact qs4))) | (apply drnK_take 5; (focus rfl); (focus rfl); (focus exact wt); (focus (decide +kernel)); (focus exact hsq); (focus rfl); (focus (exact qg5))) | (apply drnK_take 6; (focus rfl); (focus rfl); (focus exact wt); (focus (decide +kernel)); (focus exact hsq); (focus rfl); (focus (first | exact qs6 | exact qg6 | exact q_max rfl rfl rfl | exact q_sliceData rfl rfl (by omega) | exact q_sliceDataN rfl rfl | exact q_unsafeStringN rfl rfl rfl | exact q_cap_slice rfl rfl))) | (apply drnK_take 11; (focus rfl); (focus rfl); (focus exact wt); (focus (decide +kernel)); (focus exact hsq); (focus rfl); (focus (exact qs11))) | (apply drnK_take 12; (focus rfl); (focus rfl); (focus exact wt); (focus (decide +kernel)); (focus exact hsq); (focus rfl); (focus (first | exact qs12 | exact q_cutp rfl rfl rfl rfl (by omega) (by omega) | exact q_slice_cap rfl rfl rfl rfl (by omega)))) | (apply drnK_off; (focus rfl); (focus rfl); (focus rfl); (focus (decide +kernel)); (focus exact hsq); (focus rfl)) | (apply drnK_offu; (focus rfl); (focus rfl); (focus rfl); (focus (decide +kernel)); (focus exact hsq); (focus rfl)) | (apply drnK_oneq 1; (focus rfl); (focus rfl); (focus (decide +kernel)); (focus exact wt); (focus rfl); (focus (exact qg1)); (focus exact hsq)) | (apply drnK_oneq 2; (focus rfl); (focus rfl); (focus (decide +kernel)); (focus exact wt); (focus rfl); (focus (first | exact qg2 | exact qs2)); (focus exact hsq)) | (apply drnK_oneq 3; (focus rfl); (focus rfl); (focus (decide +kernel)); (focus exact wt); (focus rfl); (focus (first | exact qg3 | exact qs3)); (focus exact hsq)) | (apply drnK_oneq 4; (focus rfl); (focus rfl); (focus (decide +kernel)); (focus exact wt); (focus rfl); (focus (first | exact qg4 | exact qs4)); (focus exact hsq)) | (apply drnK_oneq 5; (focus rfl); (focus rfl); (focus (decide +kernel)); (focus exact wt); (focus rfl); (focus (exact qg5)); (focus exact hsq)) | (apply drnK_oneq 6; (focus rfl); (focus rfl); (focus (decide +kernel)); (focus exact wt); (focus rfl); (focus (first | exact qs6 | exact qg6 | exact q_max rfl rfl rfl | exact q_sliceData rfl rfl (by omega) | exact q_sliceDataN rfl rfl | exact q_unsafeStringN rfl rfl rfl | exact q_cap_slice rfl rfl)); (focus exact hsq)) | (apply drnK_oneq 11; (focus rfl); (focus rfl); (focus (decide +kernel)); (focus exact wt); (focus rfl); (focus (exact qs11)); (focus exact hsq)) | (apply drnK_oneq 12; (focus rfl); (focus rfl); (focus (decide +kernel)); (focus exact wt); (focus rfl); (focus (first | exact qs12 | exact q_cutp rfl rfl rfl rfl (by omega) (by omega) | exact q_slice_cap rfl rfl rfl rfl (by omega))); (focus exact hsq)) | (apply drnK_ones 8; (focus rfl); (focus rfl); (focus (decide +kernel)); (focus exact wt); (focus rfl); (focus (exact opr_box_agg rfl rfl)); (rintro _ _ ⟨b, rfl, rfl⟩; refine ⟨(by first | exact fun h => absurd h (by decide) | exact fun _ => hsq), ?_⟩)) | (apply drnK_ones 8; (focus rfl); (focus rfl); (focus (decide +kernel)); (focus exact wt); (focus rfl); (focus (exact opr_box_one rfl rfl rfl)); (rintro _ _ ⟨b, rfl, rfl⟩; refine ⟨(by first | exact fun h => absurd h (by decide) | exact fun _ => hsq), ?_⟩)) | (apply drnK_ones 8; (focus rfl); (focus rfl); (focus (decide +kernel)); (focus exact wt); (focus rfl); (focus (exact opr_new rfl)); (rintro _ _ ⟨b, rfl, rfl⟩; refine ⟨(by first | exact fun h => absurd h (by decide) | exact fun _ => hsq), ?_⟩)) | (apply drnK_onen 9; (focus rfl); (focus rfl); (focus (decide +kernel)); (focus exact wt); (focus (exact opr_store_box_agg rfl rfl rfl (by exact pka) rfl rfl rfl (by exact spla))); (rintro _ _ ⟨rfl, rfl⟩; refine ⟨(by first | exact fun h => absurd h (by decide) | exact fun _ => hsq), ?_⟩)) | (apply drnK_onen 9; (focus rfl); (focus rfl); (focus (decide +kernel)); (focus exact wt); (focus (exact opr_store_box_one rfl rfl rfl rfl (by exact pka) rfl (by exact seta))); (rintro _ _ ⟨rfl, rfl⟩; refine ⟨(by first | exact fun h => absurd h (by decide) | exact fun _ => hsq), ?_⟩)) | (apply drnK_ones 10; (focus rfl); (focus rfl); (focus (decide +kernel)); (focus exact wt); (focus rfl); (focus (exact opr_buildSlice rfl rfl rfl (by exact blda) rfl rfl (by decide) rfl)); (rintro _ _ ⟨q, rfl, rfl⟩; refine ⟨(by first | exact fun h => absurd h (by decide) | exact fun _ => hsq), ?_⟩; (try refine drnK_more hsq ?_))) | (apply drnK_end; (focus (decide +kernel))) | (apply drnK_done; (focus (decide +kernel))) | (apply drnK_lss; (focus rfl); (focus rfl); (focus rfl); (focus exact wt); (focus (decide +kernel)); (focus exact hsq); (focus rfl); (all_goals (intro h))) | (apply drnK_leq; (focus rfl); (focus rfl); (focus rfl); (focus exact wt); (focus (decide +kernel)); (focus exact hsq); (focus rfl); (all_goals (intro h))) | (apply drnK_gtr; (focus rfl); (focus rfl); (focus rfl); (focus exact wt); (focus (decide +kernel)); (focus exact hsq); (focus rfl); (all_goals (intro h))) | (apply drnK_geq; (focus rfl); (focus rfl); (focus rfl); (focus exact wt); (focus (decide +kernel)); (focus exact hsq); (focus rfl); (all_goals (intro h))) | (apply drnK_eql; (focus rfl); (focus rfl); (focus rfl); (focus exact wt); (focus (decide +kernel)); (focus exact hsq); (focus rfl); (all_goals (intro h))) | (apply drnK_neq; (focus rfl); (focus rfl); (focus rfl); (focus exact wt); (focus (decide +kernel)); (focus exact hsq); (focus rfl); (all_goals (intro h))) | (apply drnK_skip; (focus rfl)) | (apply drnK_wrap; (focus rfl))))
    exact pst_fin rfl (by exact resa) _ (⟨rfl, rfl⟩) (by exact hsa)
  · have h1 : W.length = 1 := by omega
    obtain ⟨w, e⟩ := List.length_eq_one_iff.1 h1
    have hw : W[0]? = some w := by rw [e]; rfl
    have e2 : leastF W M = w := by unfold leastF; rw [if_neg (by omega), if_pos h1, e]; rfl
    rw [e2]
    (refine spec_enter Try.func11 Try.ntmps11 rfl rfl fun Fr => ?_; dsimp only [List.cons_append, List.nil_append, ini, Nat.reduceAdd])
    (repeat' (first | (apply run_qg 1; (focus rfl); (focus exact wt); (focus rfl); (focus (exact qg1))) | (apply run_qg 2; (focus rfl); (focus exact wt); (focus rfl); (focus (first | exact qg2 | exact qs2))) | (apply run_qg 3; (focus rfl); (focus exact wt); (focus rfl); (focus (first | exact qg3 | exact qs3))) | (apply run_qg 4; (focus rfl); (focus exact wt); (focus rfl); (focus (first | exact qg4 | exact qs4))) | (apply run_qg 5; (focus rfl); (focus exact wt); (focus rfl); (focus (exact qg5))) | (apply run_qg 6; (focus rfl); (focus exact wt); (focus rfl); (focus (first | exact qs6 | exact qg6 | exact q_max rfl rfl rfl | exact q_sliceData rfl rfl (by omega) | exact q_sliceDataN rfl rfl | exact q_unsafeStringN rfl rfl rfl | exact q_cap_slice rfl rfl))) | (apply run_qg 11; (focus rfl); (focus exact wt); (focus rfl); (focus (exact qs11))) | (apply run_qg 12; (focus rfl); (focus exact wt); (focus rfl); (focus (first | exact qs12 | exact q_cutp rfl rfl rfl rfl (by omega) (by omega) | exact q_slice_cap rfl rfl rfl rfl (by omega)))) | refine cod_seq ?_ | refine cod_region ?_ | refine run_nil ?_ | refine pst_then ?_ | (apply cod_cond_t; (focus rfl)) | (apply cod_cond_f; (focus rfl)) | refine cod_block ?_ | refine cod_exit ?_ | refine cod_ret ?_ | refine cod_skip ?_ | refine pst_block_here ?_ | refine pst_block_out rfl ?_ | refine pst_block_ret ?_ | refine pst_then_exit ?_ | refine pst_then_ret ?_ | refine pst_block ?_ | (apply run_osg 8; (focus rfl); (focus exact wt); (focus rfl); (focus (exact opr_box_agg rfl rfl)); (rintro _ _ ⟨b, rfl, rfl⟩)) | (apply run_osg 8; (focus rfl); (focus exact wt); (focus rfl); (focus (exact opr_box_one rfl rfl rfl)); (rintro _ _ ⟨b, rfl, rfl⟩)) | (apply run_osg 8; (focus rfl); (focus exact wt); (focus rfl); (focus (exact opr_new rfl)); (rintro _ _ ⟨b, rfl, rfl⟩)) | (apply run_ong 9; (focus rfl); (focus exact wt); (focus (exact opr_store_box_agg rfl rfl rfl (by exact pka) rfl rfl rfl (by exact spla))); (rintro _ _ ⟨rfl, rfl⟩)) | (apply run_ong 9; (focus rfl); (focus exact wt); (focus (exact opr_store_box_one rfl rfl rfl rfl (by exact pka) rfl (by exact seta))); (rintro _ _ ⟨rfl, rfl⟩)) | (apply run_osg 10; (focus rfl); (focus exact wt); (focus rfl); (focus (exact opr_buildSlice rfl rfl rfl (by exact blda) rfl rfl (by decide) rfl)); (rintro _ _ ⟨q, rfl, rfl⟩)) | refine cod_scope ?_ | refine pst_scope ?_ | refine pst_scope_ret ?_ | refine pst_scope_exit ?_ | refine cod_label ?_ | (apply run_offs; (focus rfl); (focus rfl); (focus rfl)) | (apply run_offn; (focus rfl); (focus rfl)) | (apply run_offus; (focus rfl); (focus rfl); (focus rfl)) | (apply run_offun; (focus rfl); (focus rfl)) | (apply cod_drawn_k; (focus kernel_rfl); (focus (simp only [List.length_cons, List.length_nil, Nat.reduceAdd]; rfl))) | ((first | (apply run_lss; (rotate_left 2); (focus rfl)) | (apply run_leq; (rotate_left 2); (focus rfl)) | (apply run_gtr; (rotate_left 2); (focus rfl)) | (apply run_geq; (rotate_left 2); (focus rfl)) | (apply run_eql; (rotate_left 2); (focus rfl)) | (apply run_neq; (rotate_left 2); (focus rfl)) | (apply run_seq; (rotate_left 2); (focus rfl)) | (apply run_sneq; (rotate_left 2); (focus rfl))); (focus rfl); (focus rfl); (rotate_right 2); (focus exact wt); (focus rfl); (all_goals (intro h; dsimp only [upd]))) | (apply drnK_take 1; (focus rfl); (focus rfl); (focus exact wt); (focus (decide +kernel)); (focus exact hsq); (focus rfl); (focus (exact qg1))) | (apply drnK_take 2; (focus rfl); (focus rfl); (focus exact wt); (focus (decide +kernel)); (focus exact hsq); (focus rfl); (focus (first | exact qg2 | exact qs2))) | (apply drnK_take 3; (focus rfl); (focus rfl); (focus exact wt); (focus (decide +kernel)); (focus exact hsq); (focus rfl); (focus (first | exact qg3 | exact qs3))) | (apply drnK_take 4; (focus rfl); (focus rfl); (focus exact wt); (focus (decide +kernel)); (focus exact hsq); (focus rfl); (focus (first | exact qg4 | exact qs4))) | (apply drnK_take 5; (focus rfl); (focus rfl); (focus exact wt); (focus (decide +kernel)); (focus exact hsq); (focus rfl); (focus (exact qg5))) | (apply drnK_take 6; (focus rfl); (focus rfl); (focus exact wt); (focus (decide +kernel)); (focus exact hsq); (focus rfl); (focus (first | exact qs6 | exact qg6 | exact q_max rfl rfl rfl | exact q_sliceData rfl rfl (by omega) | exact q_sliceDataN rfl rfl | exact q_unsafeStringN rfl rfl rfl | exact q_cap_slice rfl rfl))) | (apply drnK_take 11; (focus rfl); (focus rfl); (focus exact wt); (focus (decide +kernel)); (focus exact hsq); (focus rfl); (focus (exact qs11))) | (apply drnK_take 12; (focus rfl); (focus rfl); (focus exact wt); (focus (decide +kernel)); (focus exact hsq); (focus rfl); (focus (first | exact qs12 | exact q_cutp rfl rfl rfl rfl (by omega) (by omega) | exact q_slice_cap rfl rfl rfl rfl (by omega)))) | (apply drnK_off; (focus rfl); (focus rfl); (focus rfl); (focus (decide +kernel)); (focus exact hsq); (focus rfl)) | (apply drnK_offu; (focus rfl); (focus rfl); (focus rfl); (focus (decide +kernel)); (focus exact hsq); (focus rfl)) | (apply drnK_oneq 1; (focus rfl); (focus rfl); (focus (decide +kernel)); (focus exact wt); (focus rfl); (focus (exact qg1)); (focus exact hsq)) | (apply drnK_oneq 2; (focus rfl); (focus rfl); (focus (decide +kernel)); (focus exact wt); (focus rfl); (focus (first | exact qg2 | exact qs2)); (focus exact hsq)) | (apply drnK_oneq 3; (focus rfl); (focus rfl); (focus (decide +kernel)); (focus exact wt); (focus rfl); (focus (first | exact qg3 | exact qs3)); (focus exact hsq)) | (apply drnK_oneq 4; (focus rfl); (focus rfl); (focus (decide +kernel)); (focus exact wt); (focus rfl); (focus (first | exact qg4 | exact qs4)); (focus exact hsq)) | (apply drnK_oneq 5; (focus rfl); (focus rfl); (focus (decide +kernel)); (focus exact wt); (focus rfl); (focus (exact qg5)); (focus exact hsq)) | (apply drnK_oneq 6; (focus rfl); (focus rfl); (focus (decide +kernel)); (focus exact wt); (focus rfl); (focus (first | exact qs6 | exact qg6 | exact q_max rfl rfl rfl | exact q_sliceData rfl rfl (by omega) | exact q_sliceDataN rfl rfl | exact q_unsafeStringN rfl rfl rfl | exact q_cap_slice rfl rfl)); (focus exact hsq)) | (apply drnK_oneq 11; (focus rfl); (focus rfl); (focus (decide +kernel)); (focus exact wt); (focus rfl); (focus (exact qs11)); (focus exact hsq)) | (apply drnK_oneq 12; (focus rfl); (focus rfl); (focus (decide +kernel)); (focus exact wt); (focus rfl); (focus (first | exact qs12 | exact q_cutp rfl rfl rfl rfl (by omega) (by omega) | exact q_slice_cap rfl rfl rfl rfl (by omega))); (focus exact hsq)) | (apply drnK_ones 8; (focus rfl); (focus rfl); (focus (decide +kernel)); (focus exact wt); (focus rfl); (focus (exact opr_box_agg rfl rfl)); (rintro _ _ ⟨b, rfl, rfl⟩; refine ⟨(by first | exact fun h => absurd h (by decide) | exact fun _ => hsq), ?_⟩)) | (apply drnK_ones 8; (focus rfl); (focus rfl); (focus (decide +kernel)); (focus exact wt); (focus rfl); (focus (exact opr_box_one rfl rfl rfl)); (rintro _ _ ⟨b, rfl, rfl⟩; refine ⟨(by first | exact fun h => absurd h (by decide) | exact fun _ => hsq), ?_⟩)) | (apply drnK_ones 8; (focus rfl); (focus rfl); (focus (decide +kernel)); (focus exact wt); (focus rfl); (focus (exact opr_new rfl)); (rintro _ _ ⟨b, rfl, rfl⟩; refine ⟨(by first | exact fun h => absurd h (by decide) | exact fun _ => hsq), ?_⟩)) | (apply drnK_onen 9; (focus rfl); (focus rfl); (focus (decide +kernel)); (focus exact wt); (focus (exact opr_store_box_agg rfl rfl rfl (by exact pka) rfl rfl rfl (by exact spla))); (rintro _ _ ⟨rfl, rfl⟩; refine ⟨(by first | exact fun h => absurd h (by decide) | exact fun _ => hsq), ?_⟩)) | (apply drnK_onen 9; (focus rfl); (focus rfl); (focus (decide +kernel)); (focus exact wt); (focus (exact opr_store_box_one rfl rfl rfl rfl (by exact pka) rfl (by exact seta))); (rintro _ _ ⟨rfl, rfl⟩; refine ⟨(by first | exact fun h => absurd h (by decide) | exact fun _ => hsq), ?_⟩)) | (apply drnK_ones 10; (focus rfl); (focus rfl); (focus (decide +kernel)); (focus exact wt); (focus rfl); (focus (exact opr_buildSlice rfl rfl rfl (by exact blda) rfl rfl (by decide) rfl)); (rintro _ _ ⟨q, rfl, rfl⟩; refine ⟨(by first | exact fun h => absurd h (by decide) | exact fun _ => hsq), ?_⟩; (try refine drnK_more hsq ?_))) | (apply drnK_end; (focus (decide +kernel))) | (apply drnK_done; (focus (decide +kernel))) | (apply drnK_lss; (focus rfl); (focus rfl); (focus rfl); (focus exact wt); (focus (decide +kernel)); (focus exact hsq); (focus rfl); (all_goals (intro h))) | (apply drnK_leq; (focus rfl); (focus rfl); (focus rfl); (focus exact wt); (focus (decide +kernel)); (focus exact hsq); (focus rfl); (all_goals (intro h))) | (apply drnK_gtr; (focus rfl); (focus rfl); (focus rfl); (focus exact wt); (focus (decide +kernel)); (focus exact hsq); (focus rfl); (all_goals (intro h))) | (apply drnK_geq; (focus rfl); (focus rfl); (focus rfl); (focus exact wt); (focus (decide +kernel)); (focus exact hsq); (focus rfl); (all_goals (intro h))) | (apply drnK_eql; (focus rfl); (focus rfl); (focus rfl); (focus exact wt); (focus (decide +kernel)); (focus exact hsq); (focus rfl); (all_goals (intro h))) | (apply drnK_neq; (focus rfl); (focus rfl); (focus rfl); (focus exact wt); (focus (decide +kernel)); (focus exact hsq); (focus rfl); (all_goals (intro h))) | (apply drnK_skip; (focus rfl)) | (apply drnK_wrap; (focus rfl))))
    exact pst_fin rfl (by exact resa) _ (⟨rfl, rfl⟩) (by exact hsa)
end Go.Proofs.Ytppnaofebkpbkaa.huff
