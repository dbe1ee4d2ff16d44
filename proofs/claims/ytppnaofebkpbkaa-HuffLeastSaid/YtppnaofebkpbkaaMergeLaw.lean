/-
  Huffman: the two rarest of some signs may be made one; the limit of 15 bits does not bind up to 16 signs (no program).
-/
import Derived.Test.YtppnaofebkpbkaaFlatLaw
namespace Go.Proofs.Ytppnaofebkpbkaa.huff
open Go.RowKit kit sl Go.Proofs.Ytppnaofebkpbkaa.pm
set_option linter.unusedVariables false
def krP (M : Nat) : List (Int × Nat) → Nat
  | [] => 0
  | p :: l => 2 ^ (M - p.2) + krP M l
def cstP : List (Int × Nat) → Int
  | [] => 0
  | p :: l => p.1 * (p.2 : Int) + cstP l
def CodP (M : Nat) (P : List (Int × Nat)) : Prop := (∀ p ∈ P, 1 ≤ p.2 ∧ p.2 ≤ M) ∧ krP M P ≤ 2 ^ M
theorem krP_perm (M : Nat) {a b : List (Int × Nat)} (p : a.Perm b) : krP M a = krP M b := by
  induction p with
  | nil => rfl
  | cons x _ ih => simp only [krP, ih]
  | swap x y l => simp only [krP]; omega
  | trans _ _ h1 h2 => exact h1.trans h2
theorem cstP_perm {a b : List (Int × Nat)} (p : a.Perm b) : cstP a = cstP b := by
  induction p with
  | nil => rfl
  | cons x _ ih => simp only [cstP, ih]
  | swap x y l => simp only [cstP]; omega
  | trans _ _ h1 h2 => exact h1.trans h2
theorem codP_perm {M : Nat} {a b : List (Int × Nat)} (p : a.Perm b) (h : CodP M a) : CodP M b :=
  ⟨fun x hx => h.1 x (p.mem_iff.2 hx), by rw [← krP_perm M p]; exact h.2⟩
def Least (W : List Int) (M : Nat) (c : Int) : Prop := (∃ P : List (Int × Nat), (P.map Prod.fst).Perm W ∧ CodP M P ∧ cstP P = c) ∧ ∀ P : List (Int × Nat), (P.map Prod.fst).Perm W → CodP M P → c ≤ cstP P
theorem least_perm {W W' : List Int} {M : Nat} {c : Int} (p : W.Perm W') (h : Least W M c) : Least W' M c := by
  obtain ⟨⟨P, h1, h2⟩, h3⟩ := h
  exact ⟨⟨P, h1.trans p, h2⟩, fun P h => h3 P (h.trans p.symm)⟩
theorem least_eq {W : List Int} {M : Nat} {c c' : Int} (h : Least W M c) (h' : Least W M c') : c = c' := by
  obtain ⟨⟨P, h1, h2, h3⟩, h4⟩ := h
  obtain ⟨⟨P', h1', h2', h3'⟩, h4'⟩ := h'
  have a := h4 P' h1' h2'
  have b := h4' P h1 h2
  omega
theorem fit : ∀ (W : List Int) (P : List (Int × Nat)), (P.map Prod.fst).Perm W → ∃ P' : List (Int × Nat), P'.Perm P ∧ P'.map Prod.fst = W
  | [], P, h => by
    have hl := h.length_eq
    rw [List.length_map] at hl
    exact ⟨[], by rw [List.length_eq_zero_iff.1 hl], rfl⟩
  | w :: W, P, h => by
    have hw : w ∈ P.map Prod.fst := h.mem_iff.2 List.mem_cons_self
    obtain ⟨p, hp, hpw⟩ := List.mem_map.1 hw
    subst hpw
    have h1 := List.perm_cons_erase hp
    have h2 : ((P.erase p).map Prod.fst).Perm W := ((h1.map Prod.fst).symm.trans h).cons_inv
    obtain ⟨P', hP', e⟩ := fit W _ h2
    exact ⟨p :: P', (hP'.cons p).trans h1.symm, by rw [List.map_cons, e]⟩
theorem krP_map (M : Nat) (w : Nat → Int) (g : Nat → Nat) : ∀ p : List Nat, krP M (p.map fun i => (w i, g i)) = sumN (fun i => 2 ^ (M - g i)) p
  | [] => rfl
  | i :: p => by simp only [List.map_cons, krP, sumN, krP_map M w g p]
theorem cstP_map (w : Nat → Int) (g : Nat → Nat) : ∀ p : List Nat, cstP (p.map fun i => (w i, g i)) = sumI (fun i => w i * (g i : Int)) p
  | [] => rfl
  | i :: p => by simp only [List.map_cons, cstP, sumI, cstP_map w g p]
theorem some_fun : ∀ (p q : List Nat), p.Nodup → p.length = q.length → ∃ g : Nat → Nat, p.map g = q
  | [], [], _, _ => ⟨fun _ => 0, rfl⟩
  | [], _ :: _, _, h => by cases h
  | _ :: _, [], _, h => by cases h
  | i :: p, y :: q, hn, h => by
    obtain ⟨g, hg⟩ := some_fun p q (List.nodup_cons.1 hn).2 (Nat.succ.inj h)
    refine ⟨fun j => if j = i then y else g j, ?_⟩
    rw [List.map_cons, if_pos rfl, ← hg]
    congr 1
    exact List.map_congr_left fun j hj => if_neg fun (e : j = i) => (List.nodup_cons.1 hn).1 (by rw [← e]; exact hj)
theorem two_maps (w : Nat → Int) (g : Nat → Nat) : ∀ (p : List Nat) (P : List (Int × Nat)), P.map Prod.fst = p.map w → p.map g = P.map Prod.snd → P = p.map fun i => (w i, g i)
  | [], [], _, _ => rfl
  | [], _ :: _, h, _ => by cases h
  | _ :: _, [], h, _ => by cases h
  | i :: p, x :: P, h1, h2 => by
    rw [List.map_cons, List.map_cons] at h1 h2
    obtain ⟨a1, a2⟩ := List.cons.inj h1
    obtain ⟨b1, b2⟩ := List.cons.inj h2
    rw [List.map_cons, ← two_maps w g p P a2 b2, ← a1, b1]
theorem least_of {F : List Int} {M : Nat} {l : Nat → Nat} (h : LensOk F M l) : Least ((posF F F.length).map (wF F)) M (costF F l) := by
  refine ⟨⟨(posF F F.length).map fun i => (wF F i, l i), ?_, ⟨?_, ?_⟩, cstP_map _ _ _⟩, fun P hP hc => ?_⟩
  · rw [List.map_map]
    exact List.Perm.refl _
  · intro p hp
    obtain ⟨i, hi, e⟩ := List.mem_map.1 hp
    subst e
    exact h.right.1 i hi
  · rw [krP_map]
    exact h.right.2
  · obtain ⟨P', hp', e⟩ := fit _ _ hP
    have hlen : (posF F F.length).length = (P'.map Prod.snd).length := by
      have := congrArg List.length e
      rw [List.length_map, List.length_map] at this
      rw [List.length_map, this]
    obtain ⟨g, hg⟩ := some_fun _ _ (pos_nodup F F.length) hlen
    have e2 := two_maps (wF F) g _ _ e hg
    have hc' := codP_perm hp'.symm hc
    rw [← cstP_perm hp', e2, cstP_map]
    refine h.least g ⟨fun i hi => ?_, ?_⟩
    · exact hc'.1 (wF F i, g i) (by rw [e2]; exact List.mem_map.2 ⟨i, hi, rfl⟩)
    · have := hc'.2
      rw [e2, krP_map] at this
      exact this
/-- how many ones a number has -/
def pc (n : Nat) : Nat := if h : n = 0 then 0 else n % 2 + pc (n / 2)
termination_by n
decreasing_by omega
theorem pc_eq (n : Nat) : pc n = n % 2 + pc (n / 2) := by
  by_cases h : n = 0
  · subst h
    have : pc 0 = 0 := by rw [pc, dif_pos rfl]
    rw [show (0 : Nat) / 2 = 0 from rfl, this]
  · rw [pc, dif_neg h]
theorem pc_zero : pc 0 = 0 := by rw [pc, dif_pos rfl]
theorem pc_one : ∀ n x : Nat, x ≤ n → pc (x + 1) ≤ pc x + 1
  | 0, x, h => by
    have hx : x = 0 := by omega
    subst hx
    rw [pc_eq (0 + 1), show (0 + 1) / 2 = 0 from rfl, pc_zero]
    decide
  | n + 1, x, h => by
    rw [pc_eq (x + 1), pc_eq x]
    rcases Nat.mod_two_eq_zero_or_one x with e | e
    · rw [show (x + 1) % 2 = 1 by omega, show (x + 1) / 2 = x / 2 by omega]
      omega
    · have := pc_one n (x / 2) (by omega)
      rw [show (x + 1) % 2 = 0 by omega, show (x + 1) / 2 = x / 2 + 1 by omega]
      omega
theorem pc_pow : ∀ k x : Nat, pc (x + 2 ^ k) ≤ pc x + 1
  | 0, x => pc_one x x (Nat.le_refl _)
  | k + 1, x => by
    have := pc_pow k (x / 2)
    rw [pc_eq (x + 2 ^ (k + 1)), pc_eq x, Nat.pow_succ]
    generalize 2 ^ k = g at *
    rw [show (x + g * 2) % 2 = x % 2 by omega, show (x + g * 2) / 2 = x / 2 + g by omega]
    omega
theorem pc_kr (M : Nat) : ∀ P : List (Int × Nat), pc (krP M P) ≤ P.length
  | [] => by rw [krP, pc_zero]; exact Nat.le_refl _
  | p :: P => by
    have h1 := pc_pow (M - p.2) (krP M P)
    have h2 := pc_kr M P
    rw [krP, Nat.add_comm, List.length_cons]
    omega
theorem pc_ones : ∀ t : Nat, pc (2 ^ t - 1) = t
  | 0 => pc_zero
  | t + 1 => by
    have h := Nat.two_pow_pos t
    have ih := pc_ones t
    rw [pc_eq, Nat.pow_succ]
    generalize 2 ^ t = g at *
    rw [show (g * 2 - 1) % 2 = 1 by omega, show (g * 2 - 1) / 2 = g - 1 by omega, ih]
    omega
theorem pc_gap (t : Nat) : ∀ a : Nat, pc (2 ^ a * (2 ^ t - 1)) = t
  | 0 => by rw [Nat.pow_zero, Nat.one_mul]; exact pc_ones t
  | a + 1 => by
    have ih := pc_gap t a
    rw [pc_eq, show 2 ^ (a + 1) * (2 ^ t - 1) = (2 ^ a * (2 ^ t - 1)) * 2 by rw [Nat.pow_succ, Nat.mul_right_comm]]
    generalize 2 ^ a * (2 ^ t - 1) = y at *
    rw [show y * 2 % 2 = 0 by omega, show y * 2 / 2 = y by omega, ih]
    omega
theorem max_of : ∀ P : List (Int × Nat), P ≠ [] → ∃ p ∈ P, ∀ q ∈ P, q.2 ≤ p.2
  | [], h => absurd rfl h
  | [p], _ => ⟨p, List.mem_cons_self, fun q hq => by rw [List.mem_singleton.1 hq]; exact Nat.le_refl _⟩
  | p :: r :: P, _ => by
    obtain ⟨m, hm, h⟩ := max_of (r :: P) (by simp)
    rcases Nat.le_total p.2 m.2 with g | g
    · refine ⟨m, List.mem_cons_of_mem _ hm, fun q hq => ?_⟩
      rcases List.mem_cons.1 hq with e | hq
      · rw [e]; exact g
      · exact h q hq
    · refine ⟨p, List.mem_cons_self, fun q hq => ?_⟩
      rcases List.mem_cons.1 hq with e | hq
      · rw [e]; exact Nat.le_refl _
      · exact Nat.le_trans (h q hq) g
theorem kr_mul {M t : Nat} (ht : t ≤ M) : ∀ P : List (Int × Nat), (∀ p ∈ P, p.2 ≤ t) → ∃ c, krP M P = c * 2 ^ (M - t)
  | [], _ => ⟨0, by rw [krP, Nat.zero_mul]⟩
  | p :: P, h => by
    obtain ⟨c, hc⟩ := kr_mul ht P fun q hq => h q (List.mem_cons_of_mem _ hq)
    have h1 := h p List.mem_cons_self
    refine ⟨2 ^ (t - p.2) + c, ?_⟩
    rw [krP, hc, Nat.add_mul, ← Nat.pow_add, show t - p.2 + (M - t) = M - p.2 by omega]
theorem pow_mul {M t : Nat} (ht : t ≤ M) : 2 ^ M = 2 ^ t * 2 ^ (M - t) := by rw [← Nat.pow_add, show t + (M - t) = M by omega]
def Best (M : Nat) (P : List (Int × Nat)) : Prop := CodP M P ∧ ∀ P' : List (Int × Nat), (P'.map Prod.fst).Perm (P.map Prod.fst) → CodP M P' → cstP P ≤ cstP P'
theorem best_perm {M : Nat} {P Q : List (Int × Nat)} (p : P.Perm Q) (h : Best M P) : Best M Q :=
  ⟨codP_perm p h.1, fun P' h1 h2 => by rw [← cstP_perm p]; exact h.2 P' (h1.trans (p.symm.map _)) h2⟩
/-- the longest of a best code cannot be shortened -/
theorem best_full {M : Nat} {p : Int × Nat} {R : List (Int × Nat)} (h : Best M (p :: R)) (hw : 0 < p.1) (ht : 2 ≤ p.2) : 2 ^ M < krP M R + 2 ^ (M - p.2) * 2 := by
  rcases Nat.lt_or_ge (2 ^ M) (krP M R + 2 ^ (M - p.2) * 2) with g | g
  · exact g
  · exfalso
    have hM := (h.1.1 p List.mem_cons_self).2
    have hc : CodP M ((p.1, p.2 - 1) :: R) := by
      refine ⟨fun q hq => ?_, ?_⟩
      · rcases List.mem_cons.1 hq with e | hq
        · rw [e]
          show 1 ≤ p.2 - 1 ∧ p.2 - 1 ≤ M
          omega
        · exact h.1.1 q (List.mem_cons_of_mem _ hq)
      · show 2 ^ (M - (p.2 - 1)) + krP M R ≤ 2 ^ M
        rw [show M - (p.2 - 1) = (M - p.2) + 1 by omega, Nat.pow_succ]
        omega
    have h2 := h.2 ((p.1, p.2 - 1) :: R) (List.Perm.refl _) hc
    simp only [cstP] at h2
    rw [show ((p.2 - 1 : Nat) : Int) = (p.2 : Int) - 1 by omega, Int.mul_sub] at h2
    omega
/-- no code word of a best code of n signs is longer than n - 1 -/
theorem best_deep {M : Nat} {P : List (Int × Nat)} (h : Best M P) (hw : ∀ p ∈ P, 0 < p.1) (hn : 2 ≤ P.length) : ∀ p ∈ P, p.2 ≤ P.length - 1 := by
  obtain ⟨m, hm, hmax⟩ := max_of P (fun e => by rw [e] at hn; exact absurd hn (by decide))
  intro q hq
  refine Nat.le_trans (hmax q hq) ?_
  have hp := List.perm_cons_erase hm
  have hl := hp.length_eq
  rw [List.length_cons] at hl
  rcases Nat.lt_or_ge m.2 2 with g | g
  · omega
  · have hb := best_perm hp h
    have hful := best_full hb (hw m hm) g
    have hmM := (h.1.1 m hm).2
    have hk := hb.1.2
    obtain ⟨c, hc⟩ := kr_mul hmM (P.erase m) fun r hr => hmax r (List.mem_of_mem_erase hr)
    have hpw := pow_mul hmM
    have hd := pc_kr M (P.erase m)
    have hg := pc_gap m.2 (M - m.2)
    have hpos := Nat.two_pow_pos (M - m.2)
    simp only [krP] at hk
    have e : krP M (P.erase m) = 2 ^ (M - m.2) * (2 ^ m.2 - 1) := by
      rw [hc] at hk hful ⊢
      rw [hpw] at hk hful
      generalize 2 ^ (M - m.2) = g at *
      generalize 2 ^ m.2 = d at *
      have h1 : (1 + c) * g ≤ d * g := by rw [Nat.add_mul, Nat.one_mul]; exact hk
      have h2 : d * g < (c + 2) * g := by rw [Nat.add_mul, Nat.mul_comm 2]; exact hful
      have h3 := Nat.le_of_mul_le_mul_right h1 hpos
      have h4 := Nat.lt_of_mul_lt_mul_right h2
      rw [show d = c + 1 by omega, Nat.add_sub_cancel, Nat.mul_comm]
    rw [e, hg] at hd
    omega
theorem deepen {M : Nat} {s a b : Int} {x : Nat} {R : List (Int × Nat)} (h : CodP M ((s, x) :: R)) (hx : x < M) (hs : s = a + b) : CodP M ((a, x + 1) :: (b, x + 1) :: R) ∧ cstP ((a, x + 1) :: (b, x + 1) :: R) = cstP ((s, x) :: R) + a + b := by
  have hxx := h.1 _ List.mem_cons_self
  refine ⟨⟨fun q hq => ?_, ?_⟩, ?_⟩
  · rcases List.mem_cons.1 hq with e | hq
    · rw [e]; exact ⟨Nat.succ_pos _, hx⟩
    · rcases List.mem_cons.1 hq with e | hq
      · rw [e]; exact ⟨Nat.succ_pos _, hx⟩
      · exact h.1 q (List.mem_cons_of_mem _ hq)
  · have h2 := h.2
    simp only [krP] at h2 ⊢
    rw [show M - x = (M - (x + 1)) + 1 by omega, Nat.pow_succ] at h2
    omega
  · simp only [cstP]
    rw [hs, Int.natCast_add, Int.mul_add, Int.mul_add, Int.add_mul]
    simp only [Int.natCast_one, Int.mul_one]
    omega
/-- the rarest gets the longest -/
theorem swap {u : Int} {lu : Nat} {R : List (Int × Nat)} (M : Nat) (hu : ∀ p ∈ R, u ≤ p.1) : ∃ t, ∃ R2 : List (Int × Nat), ((R2.map Prod.fst).Perm (R.map Prod.fst) ∧ krP M ((u, t) :: R2) = krP M ((u, lu) :: R)) ∧ cstP ((u, t) :: R2) ≤ cstP ((u, lu) :: R) ∧ (∀ q ∈ R2, q.2 ≤ t) ∧ ∀ q ∈ (u, t) :: R2, ∃ q0 ∈ (u, lu) :: R, q0.2 = q.2 := by
  obtain ⟨m, hm, hmax⟩ := max_of ((u, lu) :: R) (by simp)
  rcases List.mem_cons.1 hm with e | hmR
  · subst e
    exact ⟨lu, R, ⟨List.Perm.refl _, rfl⟩, Int.le_refl _, fun q hq => hmax q (List.mem_cons_of_mem _ hq), fun q hq => ⟨q, hq, rfl⟩⟩
  · have hp := List.perm_cons_erase hmR
    have hlu := hmax _ List.mem_cons_self
    have hum := hu m hmR
    have h1 : krP M R = 2 ^ (M - m.2) + krP M (R.erase m) := krP_perm M hp
    have h2 : cstP R = m.1 * (m.2 : Int) + cstP (R.erase m) := cstP_perm hp
    refine ⟨m.2, (m.1, lu) :: R.erase m, ⟨?_, ?_⟩, ?_, fun q hq => ?_, fun q hq => ?_⟩
    · exact (hp.map Prod.fst).symm
    · simp only [krP, h1]
      omega
    · simp only [cstP, h2]
      have h3 : 0 ≤ (m.1 - u) * ((m.2 : Int) - (lu : Int)) := Int.mul_nonneg (by omega) (by dsimp only at hlu; omega)
      rw [Int.sub_mul, Int.mul_sub, Int.mul_sub] at h3
      omega
    · rcases List.mem_cons.1 hq with e | hq
      · rw [e]; exact hlu
      · exact hmax q (List.mem_cons_of_mem _ (List.mem_of_mem_erase hq))
    · rcases List.mem_cons.1 hq with e | hq
      · rw [e]; exact ⟨m, hm, rfl⟩
      · rcases List.mem_cons.1 hq with e | hq
        · rw [e]; exact ⟨_, List.mem_cons_self, rfl⟩
        · exact ⟨q, List.mem_cons_of_mem _ (List.mem_of_mem_erase hq), rfl⟩
theorem take_out {u : Int} {W : List Int} {P : List (Int × Nat)} (h : (P.map Prod.fst).Perm (u :: W)) : ∃ l, ∃ R : List (Int × Nat), P.Perm ((u, l) :: R) ∧ (R.map Prod.fst).Perm W := by
  obtain ⟨P', hp, e⟩ := fit _ _ h
  cases P' with
  | nil => cases e
  | cons p P' =>
    rw [List.map_cons] at e
    obtain ⟨e1, e2⟩ := List.cons.inj e
    refine ⟨p.2, P', ?_, by rw [e2]⟩
    rw [← e1]
    exact hp.symm
theorem merge_down {M : Nat} {a b : Int} {V : List Int} {P : List (Int × Nat)} (h : Best M P) (hP : (P.map Prod.fst).Perm (b :: a :: V)) (hb : 0 < b) (hba : b ≤ a) (hv : ∀ v ∈ V, a ≤ v) (hV : V ≠ []) : ∃ Q : List (Int × Nat), (Q.map Prod.fst).Perm ((a + b) :: V) ∧ CodP M Q ∧ cstP Q + a + b ≤ cstP P := by
  obtain ⟨lb, R, p1, w1⟩ := take_out hP
  have hR : ∀ p ∈ R, b ≤ p.1 := fun p hp => by
    have := w1.mem_iff.1 (List.mem_map.2 ⟨p, hp, rfl⟩)
    rcases List.mem_cons.1 this with e | h3
    · omega
    · have := hv _ h3
      omega
  obtain ⟨t, R2, ⟨w2, k2⟩, c2, m2, f2⟩ := swap (lu := lb) M hR
  obtain ⟨la, R3, p3, w3⟩ := take_out (w2.trans w1)
  have hR3 : ∀ p ∈ R3, a ≤ p.1 := fun p hp => hv _ (w3.mem_iff.1 (List.mem_map.2 ⟨p, hp, rfl⟩))
  obtain ⟨t2, R4, ⟨w4, k4⟩, c4, m4, f4⟩ := swap (lu := la) M hR3
  have w4V := w4.trans w3
  have ht2 : t2 ≤ t := by
    obtain ⟨q0, hq0, e⟩ := f4 (a, t2) List.mem_cons_self
    have := m2 q0 (p3.mem_iff.2 hq0)
    rw [e] at this
    exact this
  have kR2 : krP M R2 = krP M ((a, t2) :: R4) := by rw [k4, krP_perm M p3]
  have hin : ∀ q ∈ (b, t) :: (a, t2) :: R4, 1 ≤ q.2 ∧ q.2 ≤ M := fun q hq => by
    have h0 : ∀ q ∈ (b, t) :: R2, 1 ≤ q.2 ∧ q.2 ≤ M := fun q hq => by
      obtain ⟨q0, hq0, e⟩ := f2 q hq
      rw [← e]
      exact h.1.1 q0 (p1.mem_iff.2 hq0)
    rcases List.mem_cons.1 hq with e | hq
    · rw [e]; exact h0 _ List.mem_cons_self
    · obtain ⟨q0, hq0, e⟩ := f4 q hq
      rw [← e]
      exact h0 q0 (List.mem_cons_of_mem _ (p3.mem_iff.2 hq0))
  have hkr : krP M ((b, t) :: (a, t2) :: R4) = krP M P := by
    rw [krP_perm M p1, ← k2]
    show 2 ^ (M - t) + krP M ((a, t2) :: R4) = 2 ^ (M - t) + krP M R2
    rw [kR2]
  have hcs : cstP ((b, t) :: (a, t2) :: R4) ≤ cstP P := by
    rw [cstP_perm p1]
    refine Int.le_trans ?_ c2
    show b * (t : Int) + cstP ((a, t2) :: R4) ≤ b * (t : Int) + cstP R2
    rw [cstP_perm p3]
    omega
  have hcod : CodP M ((b, t) :: (a, t2) :: R4) := ⟨hin, by rw [hkr]; exact h.1.2⟩
  have hw : (((b, t) :: (a, t2) :: R4).map Prod.fst).Perm (P.map Prod.fst) := by
    refine List.Perm.trans ?_ hP.symm
    exact (w4V.cons a).cons b
  have hbest : Best M ((b, t) :: (a, t2) :: R4) := ⟨hcod, fun P' h1 h2 => Int.le_trans hcs (h.2 P' (h1.trans hw) h2)⟩
  have htM := (hin _ List.mem_cons_self)
  have ht2M := (hin _ (List.mem_cons_of_mem _ List.mem_cons_self))
  dsimp only at htM ht2M
  have htt : t2 = t := by
    rcases Nat.lt_or_ge t2 t with g | g
    · exfalso
      have hful := best_full hbest hb (by show 2 ≤ t; omega)
      have hk := hcod.2
      obtain ⟨c, hc⟩ := kr_mul (M := M) (t := t - 1) (by omega) ((a, t2) :: R4) fun q hq => by
        rcases List.mem_cons.1 hq with e | hq
        · rw [e]
          show t2 ≤ t - 1
          omega
        · have := m4 q hq
          omega
      have hpw := pow_mul (M := M) (t := t - 1) (by omega)
      rw [show krP M ((b, t) :: (a, t2) :: R4) = 2 ^ (M - t) + krP M ((a, t2) :: R4) from rfl] at hk
      dsimp only at hful
      rw [hc, hpw] at hk hful
      rw [show M - (t - 1) = (M - t) + 1 by omega, Nat.pow_succ] at hk hful
      have hpos := Nat.two_pow_pos (M - t)
      generalize 2 ^ (M - t) = g at *
      generalize 2 ^ (t - 1) = d at *
      rcases Nat.lt_or_ge c d with h1 | h1
      · have := Nat.mul_le_mul_right (g * 2) h1
        rw [Nat.succ_mul] at this
        omega
      · have := Nat.mul_le_mul_right (g * 2) h1
        omega
    · omega
  subst htt
  have hR4 : R4 ≠ [] := fun e => by
    rw [e] at w4V
    have := w4V.length_eq
    exact hV (List.length_eq_zero_iff.1 this.symm)
  have ht1 : 2 ≤ t2 := by
    rcases Nat.lt_or_ge t2 2 with g | g
    · exfalso
      have ht : t2 = 1 := by omega
      subst ht
      obtain ⟨r, R5, e⟩ := List.exists_cons_of_ne_nil hR4
      subst e
      have hr := m4 r List.mem_cons_self
      have hr1 := hin r (List.mem_cons_of_mem _ (List.mem_cons_of_mem _ List.mem_cons_self))
      have hk := hcod.2
      simp only [krP] at hk
      rw [show r.2 = 1 by omega, pow_mul htM.2] at hk
      have hpos := Nat.two_pow_pos (M - 1)
      omega
    · exact g
  refine ⟨(a + b, t2 - 1) :: R4, w4V.cons _, ⟨fun q hq => ?_, ?_⟩, ?_⟩
  · rcases List.mem_cons.1 hq with e | hq
    · rw [e]
      show 1 ≤ t2 - 1 ∧ t2 - 1 ≤ M
      omega
    · exact hin q (List.mem_cons_of_mem _ (List.mem_cons_of_mem _ hq))
  · have hk := hcod.2
    simp only [krP] at hk ⊢
    rw [show M - (t2 - 1) = (M - t2) + 1 by omega, Nat.pow_succ]
    omega
  · refine Int.le_trans ?_ hcs
    simp only [cstP]
    rw [show ((t2 - 1 : Nat) : Int) = (t2 : Int) - 1 by omega, Int.mul_sub, Int.add_mul]
    omega
theorem best_of {W : List Int} {M : Nat} {c : Int} (h : Least W M c) : ∃ P : List (Int × Nat), (P.map Prod.fst).Perm W ∧ Best M P ∧ cstP P = c := by
  obtain ⟨⟨P, h1, h2, h3⟩, h4⟩ := h
  exact ⟨P, h1, ⟨h2, fun P' h5 h6 => by rw [h3]; exact h4 P' (h5.trans h1) h6⟩, h3⟩
theorem merge_law {V : List Int} {a b : Int} {M : Nat} {c c' : Int} (h : Least (b :: a :: V) M c) (h' : Least ((a + b) :: V) M c') (hb : 0 < b) (hba : b ≤ a) (hv : ∀ v ∈ V, a ≤ v) (hV : V ≠ []) (hM : V.length < M) : c = c' + a + b := by
  obtain ⟨P, w, hP, e⟩ := best_of h
  obtain ⟨P', w', hP', e'⟩ := best_of h'
  have h1 : c' + a + b ≤ c := by
    obtain ⟨Q, q1, q2, q3⟩ := merge_down hP w hb hba hv hV
    have := h'.2 Q q1 q2
    omega
  have h2 : c ≤ c' + a + b := by
    have hl := w'.length_eq
    rw [List.length_map, List.length_cons] at hl
    have hVl : 1 ≤ V.length := List.length_pos_iff.2 hV
    have hd := best_deep hP' (fun p hp => by
      have := w'.mem_iff.1 (List.mem_map.2 ⟨p, hp, rfl⟩)
      rcases List.mem_cons.1 this with e | h3
      · omega
      · have := hv _ h3
        omega) (by omega)
    obtain ⟨x, R, p1, w1⟩ := take_out w'
    have hx := hd (a + b, x) (p1.mem_iff.2 List.mem_cons_self)
    dsimp only at hx
    obtain ⟨d1, d2⟩ := deepen (codP_perm p1 hP'.1) (by omega) rfl
    have := h.2 _ (by
      show (a :: b :: R.map Prod.fst).Perm _
      exact (List.Perm.swap b a _).trans ((w1.cons a).cons b)) d1
    rw [d2, ← cstP_perm p1] at this
    omega
  omega
end Go.Proofs.Ytppnaofebkpbkaa.huff
