/-
  Packets of coins (Larmore and Hirschberg): what the lists hold, and that no code of so many bits costs less (no program).
-/
namespace Go.Proofs.Ytppnaofebkpbkaa.pm
/-- a packet: worth, signs -/
abbrev Coin := Int × List Nat
def pairs : List Coin → List Coin
  | a :: b :: l => (a.1 + b.1, a.2 ++ b.2) :: pairs l
  | _ => []
def mg (x : Coin) (a : List Coin) (r : List Coin → List Coin) : List Coin → List Coin
  | [] => x :: a
  | y :: b => if x.1 ≤ y.1 then x :: r (y :: b) else y :: mg x a r b
def merged : List Coin → List Coin → List Coin
  | [], b => b
  | x :: a, b => mg x a (merged a) b
def lists (s : List Coin) : Nat → List Coin
  | 0 => s
  | k + 1 => merged s (pairs (lists s k))
def Srt (l : List Coin) : Prop := l.Pairwise fun a b => a.1 ≤ b.1
def tot : List Coin → Int
  | [] => 0
  | c :: l => c.1 + tot l
def signs (l : List Coin) : List Nat := l.flatMap (·.2)
theorem merged_nil (a : List Coin) : merged a [] = a := by cases a <;> rfl
theorem merged_le {x y : Coin} {a b : List Coin} (h : x.1 ≤ y.1) : merged (x :: a) (y :: b) = x :: merged a (y :: b) := if_pos h
theorem merged_gt {x y : Coin} {a b : List Coin} (h : ¬ x.1 ≤ y.1) : merged (x :: a) (y :: b) = y :: merged (x :: a) b := if_neg h
theorem merged_ind {P : List Coin → List Coin → Prop} (h1 : ∀ b, P [] b) (h2 : ∀ x a, P (x :: a) []) (h3 : ∀ x a y b, x.1 ≤ y.1 → P a (y :: b) → P (x :: a) (y :: b)) (h4 : ∀ x a y b, ¬ x.1 ≤ y.1 → P (x :: a) b → P (x :: a) (y :: b)) : ∀ a b, P a b := by
  intro a
  induction a with
  | nil => exact h1
  | cons x a iha =>
    intro b
    induction b with
    | nil => exact h2 x a
    | cons y b ihb =>
      by_cases h : x.1 ≤ y.1
      · exact h3 x a y b h (iha _)
      · exact h4 x a y b h ihb
theorem merged_perm : ∀ a b, (merged a b).Perm (a ++ b) := by
  refine merged_ind (fun b => by rw [merged]; exact List.Perm.refl _) (fun x a => by rw [merged_nil, List.append_nil]) (fun x a y b h ih => ?_) (fun x a y b h ih => ?_)
  · rw [merged_le h]
    exact ih.cons x
  · rw [merged_gt h]
    exact (ih.cons y).trans List.perm_middle.symm
theorem merged_len (a b : List Coin) : (merged a b).length = a.length + b.length := by rw [(merged_perm a b).length_eq, List.length_append]
theorem merged_sorted : ∀ a b, Srt a → Srt b → Srt (merged a b) := by
  refine merged_ind (fun b _ hb => by rw [merged]; exact hb) (fun x a ha _ => by rw [merged_nil]; exact ha) (fun x a y b h ih ha hb => ?_) (fun x a y b h ih ha hb => ?_)
  · rw [merged_le h]
    have ha' := List.pairwise_cons.1 ha
    have hb' := List.pairwise_cons.1 hb
    refine List.pairwise_cons.2 ⟨fun z hz => ?_, ih ha'.2 hb⟩
    rcases List.mem_append.1 ((merged_perm _ _).mem_iff.1 hz) with hz | hz
    · exact ha'.1 z hz
    · rcases List.mem_cons.1 hz with rfl | hz
      · exact h
      · exact Int.le_trans h (hb'.1 z hz)
  · rw [merged_gt h]
    have ha' := List.pairwise_cons.1 ha
    have hb' := List.pairwise_cons.1 hb
    refine List.pairwise_cons.2 ⟨fun z hz => ?_, ih ha hb'.2⟩
    rcases List.mem_append.1 ((merged_perm _ _).mem_iff.1 hz) with hz | hz
    · rcases List.mem_cons.1 hz with rfl | hz
      · omega
      · have := ha'.1 z hz; omega
    · exact hb'.1 z hz
theorem merged_take : ∀ a b m, m ≤ a.length + b.length → ∃ x y, x + y = m ∧ x ≤ a.length ∧ y ≤ b.length ∧ ((merged a b).take m).Perm (a.take x ++ b.take y) := by
  refine merged_ind (fun b m hm => ⟨0, m, by omega, Nat.zero_le _, by simpa using hm, by rw [merged]; simp⟩) (fun x a m hm => ⟨m, 0, by omega, by simpa using hm, Nat.zero_le _, by rw [merged_nil]; simp⟩) (fun x a y b h ih m hm => ?_) (fun x a y b h ih m hm => ?_)
  · rw [merged_le h]
    cases m with
    | zero => exact ⟨0, 0, rfl, Nat.zero_le _, Nat.zero_le _, by simp⟩
    | succ m =>
      obtain ⟨i, j, e, h1, h2, p⟩ := ih m (by simp only [List.length_cons] at hm ⊢; omega)
      exact ⟨i + 1, j, by omega, by simp only [List.length_cons]; omega, h2, by simpa using p.cons x⟩
  · rw [merged_gt h]
    cases m with
    | zero => exact ⟨0, 0, rfl, Nat.zero_le _, Nat.zero_le _, by simp⟩
    | succ m =>
      obtain ⟨i, j, e, h1, h2, p⟩ := ih m (by simp only [List.length_cons] at hm ⊢; omega)
      refine ⟨i, j + 1, by omega, h1, by simp only [List.length_cons]; omega, ?_⟩
      simp only [List.take_succ_cons]
      exact (p.cons y).trans List.perm_middle.symm
theorem pairs_ind {P : List Coin → Prop} (h0 : P []) (h1 : ∀ a, P [a]) (h2 : ∀ a b l, P l → P (a :: b :: l)) : ∀ l, P l
  | [] => h0
  | [a] => h1 a
  | a :: b :: l => h2 a b l (pairs_ind h0 h1 h2 l)
theorem pairs_len : ∀ l, (pairs l).length = l.length / 2 := by
  refine pairs_ind rfl (fun a => by simp [pairs]) fun a b l ih => ?_
  rw [pairs, List.length_cons, ih, List.length_cons, List.length_cons]
  omega
theorem pairs_low : ∀ l, Srt l → ∀ c : Int, (∀ x ∈ l, c ≤ x.1) → ∀ y ∈ pairs l, c + c ≤ y.1 := by
  refine pairs_ind (fun _ c _ y hy => by cases hy) (fun a _ c _ y hy => by cases hy) fun a b l ih hs c hc y hy => ?_
  rw [pairs] at hy
  rcases List.mem_cons.1 hy with rfl | hy
  · have h1 := hc a List.mem_cons_self
    have h2 := hc b (List.mem_cons_of_mem _ List.mem_cons_self)
    dsimp only
    omega
  · exact ih ((List.pairwise_cons.1 (List.pairwise_cons.1 hs).2).2) c (fun x hx => hc x (List.mem_cons_of_mem _ (List.mem_cons_of_mem _ hx))) y hy
theorem pairs_sorted : ∀ l, Srt l → Srt (pairs l) := by
  refine pairs_ind (fun _ => List.Pairwise.nil) (fun _ _ => List.Pairwise.nil) fun a b l ih hs => ?_
  have h1 := List.pairwise_cons.1 hs
  have h2 := List.pairwise_cons.1 h1.2
  rw [pairs]
  refine List.pairwise_cons.2 ⟨fun y hy => ?_, ih h2.2⟩
  have h3 := pairs_low l h2.2 b.1 h2.1 y hy
  have h4 := h1.1 b List.mem_cons_self
  dsimp only
  omega
theorem tot_app (a b : List Coin) : tot (a ++ b) = tot a + tot b := by
  induction a with
  | nil => simp [tot]
  | cons x a ih => simp only [List.cons_append, tot, ih]; omega
theorem tot_perm {a b : List Coin} (p : a.Perm b) : tot a = tot b := by
  induction p with
  | nil => rfl
  | cons x _ ih => simp only [tot, ih]
  | swap x y l => simp only [tot]; omega
  | trans _ _ h1 h2 => rw [h1, h2]
theorem pairs_take : ∀ l y, 2 * y ≤ l.length → tot ((pairs l).take y) = tot (l.take (2 * y)) ∧ signs ((pairs l).take y) = signs (l.take (2 * y)) := by
  refine pairs_ind (fun y h => ?_) (fun a y h => ?_) fun a b l ih y h => ?_
  · simp [pairs]
  · have : y = 0 := by simp only [List.length_cons, List.length_nil] at h; omega
    subst this
    exact ⟨rfl, rfl⟩
  · cases y with
    | zero => exact ⟨rfl, rfl⟩
    | succ y =>
      obtain ⟨h1, h2⟩ := ih y (by simp only [List.length_cons] at h; omega)
      rw [pairs, show 2 * (y + 1) = 2 * y + 1 + 1 by omega]
      simp only [List.take_succ_cons, tot, h1, signs, List.flatMap_cons] at h2 ⊢
      rw [h2]
      refine ⟨by omega, by rw [List.append_assoc]⟩
theorem tot_nonneg {l : List Coin} (h : ∀ c ∈ l, 0 ≤ c.1) : 0 ≤ tot l := by
  induction l with
  | nil => exact Int.le_refl _
  | cons x l ih =>
    have h1 := h x List.mem_cons_self
    have h2 := ih fun c hc => h c (List.mem_cons_of_mem _ hc)
    simp only [tot]; omega
theorem tot_take_mono {l : List Coin} (h : ∀ c ∈ l, 0 ≤ c.1) {i j : Nat} (hij : i ≤ j) : tot (l.take i) ≤ tot (l.take j) := by
  have e : l.take j = l.take i ++ (l.take j).drop i := by
    have := (List.take_append_drop i (l.take j)).symm
    rwa [List.take_take, Nat.min_eq_left hij] at this
  rw [e, tot_app]
  have := tot_nonneg (l := (l.take j).drop i) fun c hc => h c (List.mem_of_mem_take (List.mem_of_mem_drop hc))
  omega
/-- of a list in order, the first so many cost least -/
theorem low_take : ∀ (l : List Coin), Srt l → ∀ s r : List Coin, (s ++ r).Perm l → tot (l.take s.length) ≤ tot s := by
  intro l
  induction l with
  | nil =>
    intro _ s r p
    have : s = [] := by
      have := p.length_eq
      rw [List.length_append, List.length_nil] at this
      exact List.eq_nil_of_length_eq_zero (by omega)
    subst this
    exact Int.le_refl _
  | cons x l ih =>
    intro hs s r p
    have hs' := List.pairwise_cons.1 hs
    cases s with
    | nil => exact Int.le_refl _
    | cons y s =>
      have hx : x ∈ y :: s ++ r := p.mem_iff.2 List.mem_cons_self
      rcases List.mem_append.1 hx with hx | hx
      · obtain ⟨s1, s2, e⟩ := List.append_of_mem hx
        have ps : (y :: s).Perm (x :: (s1 ++ s2)) := by rw [e]; exact List.perm_middle
        have p2 : (s1 ++ s2 ++ r).Perm l := by
          have := (ps.append_right r).symm.trans p
          exact (List.perm_cons x).1 (by simpa using this)
        have := ih hs'.2 _ _ p2
        rw [tot_perm ps, ps.length_eq]
        simp only [List.length_cons, List.take_succ_cons, tot]
        omega
      · obtain ⟨r1, r2, e⟩ := List.append_of_mem hx
        have p2 : (s ++ (y :: (r1 ++ r2))).Perm l := by
          have h1 : (y :: s ++ r).Perm (x :: (s ++ (y :: (r1 ++ r2)))) := by
            rw [e]
            have a1 : (s ++ (r1 ++ x :: r2)).Perm (x :: (s ++ (r1 ++ r2))) := by
              have := @List.perm_middle _ x (s ++ r1) r2
              simpa using this
            have a2 : (s ++ (y :: (r1 ++ r2))).Perm (y :: (s ++ (r1 ++ r2))) := List.perm_middle
            exact ((a1.cons y).trans (List.Perm.swap x y _)).trans (a2.symm.cons x)
          exact (List.perm_cons x).1 (h1.symm.trans p)
        have hy : y ∈ l := p2.mem_iff.1 (by simp)
        have h3 := hs'.1 y hy
        have := ih hs'.2 _ _ p2
        simp only [List.length_cons, List.take_succ_cons, tot]
        omega
section
variable {s : List Coin}
theorem lists_sorted (hs : Srt s) : ∀ k, Srt (lists s k)
  | 0 => hs
  | k + 1 => merged_sorted _ _ hs (pairs_sorted _ (lists_sorted hs k))
theorem pairs_nonneg : ∀ l : List Coin, (∀ c ∈ l, 0 ≤ c.1) → ∀ c ∈ pairs l, 0 ≤ c.1 := by
  refine pairs_ind (fun _ c hc => by cases hc) (fun _ _ c hc => by cases hc) fun a b l ih h c hc => ?_
  rw [pairs] at hc
  rcases List.mem_cons.1 hc with rfl | hc
  · have h1 := h a List.mem_cons_self
    have h2 := h b (List.mem_cons_of_mem _ List.mem_cons_self)
    dsimp only; omega
  · exact ih (fun c hc => h c (List.mem_cons_of_mem _ (List.mem_cons_of_mem _ hc))) c hc
theorem lists_nonneg (hs : ∀ c ∈ s, 0 ≤ c.1) : ∀ k, ∀ c ∈ lists s k, 0 ≤ c.1
  | 0 => hs
  | k + 1 => fun c hc => by
    rcases List.mem_append.1 ((merged_perm _ _).mem_iff.1 hc) with hc | hc
    · exact hs c hc
    · exact pairs_nonneg _ (lists_nonneg hs k) c hc
theorem lists_len (k : Nat) : (lists s (k + 1)).length = s.length + (lists s k).length / 2 := by rw [lists, merged_len, pairs_len]
/-- how long the lists are, at least -/
theorem lists_long : ∀ k, 2 * s.length ≤ (lists s k).length + (s.length + (2 ^ k - 1)) / 2 ^ k
  | 0 => by simp [lists]; omega
  | k + 1 => by
    have ih := lists_long k
    rw [lists_len]
    have h0 : 0 < 2 ^ k := Nat.two_pow_pos k
    have e : (s.length + (2 ^ (k + 1) - 1)) / 2 ^ (k + 1) = ((s.length + (2 ^ k - 1)) / 2 ^ k + 1) / 2 := by
      rw [Nat.pow_succ, ← Nat.div_div_eq_div_mul]
      congr 1
      have : s.length + (2 ^ k * 2 - 1) = s.length + (2 ^ k - 1) + 2 ^ k := by omega
      rw [this, Nat.add_div_right _ h0]
    rw [e]
    omega
theorem lists_enough {L : Nat} (hL : s.length ≤ 2 ^ (L + 1)) : 2 * s.length - 2 ≤ (lists s L).length := by
  have h := lists_long (s := s) L
  have h0 : 0 < 2 ^ L := Nat.two_pow_pos L
  have : (s.length + (2 ^ L - 1)) / 2 ^ L ≤ 2 := by
    have h3 : s.length + (2 ^ L - 1) < 3 * 2 ^ L := by rw [Nat.pow_succ] at hL; omega
    have := Nat.div_lt_of_lt_mul (m := s.length + (2 ^ L - 1)) (n := 2 ^ L) (k := 3) (by omega)
    omega
  omega
/-! ### no choice costs less -/
def cntS (s : List Coin) (sel : Nat → Coin → Bool) (t : Nat) : Nat := (s.filter (sel t)).length
def wide (s : List Coin) (sel : Nat → Coin → Bool) : Nat → Nat
  | 0 => cntS s sel 0
  | k + 1 => cntS s sel (k + 1) + wide s sel k / 2
def costS (s : List Coin) (sel : Nat → Coin → Bool) : Nat → Int
  | 0 => tot (s.filter (sel 0))
  | k + 1 => tot (s.filter (sel (k + 1))) + costS s sel k
theorem filter_perm {α : Type} (p : α → Bool) : ∀ l : List α, (l.filter p ++ l.filter fun x => !p x).Perm l := by
  intro l
  induction l with
  | nil => exact List.Perm.refl _
  | cons x l ih =>
    by_cases h : p x = true
    · simp [h]
      exact ih
    · have h' : p x = false := by simpa using h
      simp [h']
      exact List.perm_middle.trans (ih.cons x)
theorem low (hs : Srt s) (h0 : ∀ c ∈ s, 0 ≤ c.1) (sel : Nat → Coin → Bool) : ∀ k, wide s sel k ≤ (lists s k).length ∧ tot ((lists s k).take (wide s sel k)) ≤ costS s sel k
  | 0 => ⟨List.length_filter_le _ _, low_take s hs _ _ (filter_perm (sel 0) s)⟩
  | k + 1 => by
    obtain ⟨h1, h2⟩ := low hs h0 sel k
    have hl := List.length_filter_le (sel (k + 1)) s
    have hh : wide s sel k / 2 ≤ (pairs (lists s k)).length := by rw [pairs_len]; omega
    have hp : ((s.filter (sel (k + 1)) ++ (pairs (lists s k)).take (wide s sel k / 2)) ++ (s.filter (fun x => !sel (k + 1) x) ++ (pairs (lists s k)).drop (wide s sel k / 2))).Perm (lists s (k + 1)) := by
      refine List.Perm.trans ?_ (merged_perm s (pairs (lists s k))).symm
      have a1 := (filter_perm (sel (k + 1)) s).append (List.Perm.of_eq (List.take_append_drop (wide s sel k / 2) (pairs (lists s k))))
      refine List.Perm.trans ?_ a1
      simp only [List.append_assoc]
      refine List.Perm.append_left _ ?_
      simp only [← List.append_assoc]
      exact List.perm_append_comm.append_right _
    have h3 := low_take _ (lists_sorted hs (k + 1)) _ _ hp
    have hlen : (s.filter (sel (k + 1)) ++ (pairs (lists s k)).take (wide s sel k / 2)).length = wide s sel (k + 1) := by
      rw [List.length_append, List.length_take, Nat.min_eq_left hh]
      rfl
    rw [hlen, tot_app, (pairs_take _ _ (by omega)).1] at h3
    have h4 := tot_take_mono (lists_nonneg h0 k) (show 2 * (wide s sel k / 2) ≤ wide s sel k by omega)
    refine ⟨?_, ?_⟩
    · rw [lists_len]
      show cntS s sel (k + 1) + wide s sel k / 2 ≤ _
      have : cntS s sel (k + 1) ≤ s.length := hl
      omega
    · show _ ≤ tot (s.filter (sel (k + 1))) + costS s sel k
      omega
def ext (s : List Coin) (sel : Nat → Coin → Bool) : Nat → Nat
  | 0 => cntS s sel 0
  | k + 1 => cntS s sel (k + 1) * 2 ^ (k + 1) + ext s sel k
theorem wide_ext (sel : Nat → Coin → Bool) : ∀ k, wide s sel k = ext s sel k / 2 ^ k
  | 0 => by simp [wide, ext]
  | k + 1 => by
    rw [wide, ext, wide_ext sel k, Nat.add_comm (cntS s sel (k + 1) * _), Nat.add_mul_div_right _ _ (Nat.two_pow_pos _), Nat.pow_succ, ← Nat.div_div_eq_div_mul]
    omega
end

/-! ### sums -/
def sumN (f : Nat → Nat) : List Nat → Nat
  | [] => 0
  | i :: l => f i + sumN f l
def sumI (f : Nat → Int) : List Nat → Int
  | [] => 0
  | i :: l => f i + sumI f l
theorem sumN_add (f g : Nat → Nat) : ∀ l, sumN (fun i => f i + g i) l = sumN f l + sumN g l
  | [] => rfl
  | i :: l => by simp only [sumN, sumN_add f g l]; omega
theorem sumN_le {f g : Nat → Nat} : ∀ {l : List Nat}, (∀ i ∈ l, f i ≤ g i) → sumN f l ≤ sumN g l
  | [], _ => Nat.le_refl _
  | i :: l, h => by
    have h1 := h i List.mem_cons_self
    have h2 := sumN_le (l := l) fun j hj => h j (List.mem_cons_of_mem _ hj)
    simp only [sumN]; omega
theorem sumN_congr {f g : Nat → Nat} : ∀ {l : List Nat}, (∀ i ∈ l, f i = g i) → sumN f l = sumN g l
  | [], _ => rfl
  | i :: l, h => by
    have h1 := h i List.mem_cons_self
    have h2 := sumN_congr (l := l) fun j hj => h j (List.mem_cons_of_mem _ hj)
    simp only [sumN]; omega
theorem sumI_congr {f g : Nat → Int} : ∀ {l : List Nat}, (∀ i ∈ l, f i = g i) → sumI f l = sumI g l
  | [], _ => rfl
  | i :: l, h => by
    have h1 := h i List.mem_cons_self
    have h2 := sumI_congr (l := l) fun j hj => h j (List.mem_cons_of_mem _ hj)
    simp only [sumI]; omega
theorem sumI_add (f g : Nat → Int) : ∀ l, sumI (fun i => f i + g i) l = sumI f l + sumI g l
  | [] => rfl
  | i :: l => by simp only [sumI, sumI_add f g l]; omega
theorem sumN_const (c : Nat) : ∀ l, sumN (fun _ => c) l = c * l.length
  | [] => rfl
  | i :: l => by simp only [sumN, sumN_const c l, List.length_cons, Nat.mul_succ]; omega
theorem sumN_mul (f : Nat → Nat) (c : Nat) : ∀ l, sumN f l * c = sumN (fun i => f i * c) l
  | [] => Nat.zero_mul c
  | i :: l => by simp only [sumN, Nat.add_mul, sumN_mul f c l]
theorem sumN_app (f : Nat → Nat) (a b : List Nat) : sumN f (a ++ b) = sumN f a + sumN f b := by
  induction a with
  | nil => simp [sumN]
  | cons i a ih => simp only [List.cons_append, sumN, ih]; omega
theorem sumI_app (f : Nat → Int) (a b : List Nat) : sumI f (a ++ b) = sumI f a + sumI f b := by
  induction a with
  | nil => simp [sumI]
  | cons i a ih => simp only [List.cons_append, sumI, ih]; omega
theorem sumI_zero : ∀ l, sumI (fun _ => 0) l = 0
  | [] => rfl
  | i :: l => by simp only [sumI, sumI_zero l]; rfl
theorem sumI_zero' {f : Nat → Int} {l : List Nat} (h : ∀ i ∈ l, f i = 0) : sumI f l = 0 := by rw [sumI_congr h, sumI_zero]
theorem sumI_perm (f : Nat → Int) {a b : List Nat} (p : a.Perm b) : sumI f a = sumI f b := by
  induction p with
  | nil => rfl
  | cons x _ ih => simp only [sumI, ih]
  | swap x y l => simp only [sumI]; omega
  | trans _ _ h1 h2 => rw [h1, h2]
theorem sumN_perm (f : Nat → Nat) {a b : List Nat} (p : a.Perm b) : sumN f a = sumN f b := by
  induction p with
  | nil => rfl
  | cons x _ ih => simp only [sumN, ih]
  | swap x y l => simp only [sumN]; omega
  | trans _ _ h1 h2 => rw [h1, h2]
theorem sumN_map (f : Nat → Nat) (g : Nat → Nat) (l : List Nat) : sumN f (l.map g) = sumN (fun i => f (g i)) l := by
  induction l with
  | nil => rfl
  | cons i l ih => simp only [List.map_cons, sumN, ih]
theorem sumI_map (f : Nat → Int) (g : Nat → Nat) (l : List Nat) : sumI f (l.map g) = sumI (fun i => f (g i)) l := by
  induction l with
  | nil => rfl
  | cons i l ih => simp only [List.map_cons, sumI, ih]
theorem sumI_count (w : Nat → Int) {idx : List Nat} (hn : idx.Nodup) : ∀ S : List Nat, (∀ i ∈ S, i ∈ idx) → sumI w S = sumI (fun i => w i * (List.count i S : Int)) idx := by
  have one : ∀ (x : Nat) (c : Int) (l : List Nat), l.Nodup → x ∈ l → sumI (fun i => if i = x then c else 0) l = c := by
    intro x c l
    induction l with
    | nil => intro _ h; cases h
    | cons y l ih =>
      intro hn h
      have hn' := List.nodup_cons.1 hn
      by_cases hy : y = x
      · subst hy
        simp only [sumI, if_pos]
        rw [sumI_zero' fun i hi => if_neg fun e : i = y => hn'.1 (by rw [← e]; exact hi)]
        omega
      · rcases List.mem_cons.1 h with h | h
        · exact absurd h.symm hy
        · simp only [sumI, if_neg hy, ih hn'.2 h]; omega
  intro S
  induction S with
  | nil => intro _; exact (sumI_zero' fun i _ => by simp).symm
  | cons x S ih =>
    intro h
    rw [sumI, ih fun i hi => h i (List.mem_cons_of_mem _ hi)]
    have e : sumI (fun i => w i * (List.count i (x :: S) : Int)) idx = sumI (fun i => w i * (List.count i S : Int) + if i = x then w x else 0) idx := sumI_congr fun i _ => by
      rw [List.count_cons]
      by_cases hx : i = x
      · subst hx
        simp [Int.mul_add]
      · have : ¬ x = i := fun e => hx e.symm
        simp [hx, this]
    rw [e, sumI_add, one x (w x) idx hn (h x List.mem_cons_self)]
    omega
/-! ### the choice that a code makes -/
def single (w : Nat → Int) (idx : List Nat) : List Coin := idx.map fun i => (w i, [i])
def selL (L : Nat) (l : Nat → Nat) (t : Nat) (c : Coin) : Bool := decide (L - t ≤ l (c.2.headD 0))
def con (L x : Nat) : Nat → Nat
  | 0 => if L ≤ x then 1 else 0
  | k + 1 => (if L - (k + 1) ≤ x then 2 ^ (k + 1) else 0) + con L x k
theorem con_val {L x : Nat} (hx : x ≤ L) : ∀ k, (L - x ≤ k → con L x k + 2 ^ (L - x) = 2 ^ (k + 1)) ∧ (k < L - x → con L x k = 0)
  | 0 => by
    constructor
    · intro h
      have : x = L := by omega
      subst this
      simp [con]
    · intro h
      rw [con, if_neg (by omega)]
  | k + 1 => by
    obtain ⟨h1, h2⟩ := con_val hx k
    constructor
    · intro h
      rw [con, if_pos (by omega)]
      by_cases h3 : L - x ≤ k
      · have := h1 h3
        rw [Nat.pow_succ 2 (k + 1)]
        omega
      · have e : L - x = k + 1 := by omega
        rw [h2 (by omega), e, Nat.pow_succ 2 (k + 1)]
        omega
    · intro h
      rw [con, if_neg (by omega), h2 (by omega)]
theorem cnt_single (w : Nat → Int) (L : Nat) (l : Nat → Nat) (t : Nat) : ∀ idx, cntS (single w idx) (selL L l) t = sumN (fun i => if L - t ≤ l i then 1 else 0) idx := by
  intro idx
  induction idx with
  | nil => rfl
  | cons i idx ih =>
    unfold cntS single at ih ⊢
    simp only [List.map_cons, List.filter_cons, sumN]
    have : selL L l t (w i, [i]) = decide (L - t ≤ l i) := rfl
    rw [this]
    by_cases h : L - t ≤ l i
    · rw [decide_eq_true h, if_pos rfl, if_pos h, List.length_cons, ih]; omega
    · rw [decide_eq_false h, if_neg (by decide), if_neg h, ih]; omega
theorem ext_single (w : Nat → Int) (L : Nat) (l : Nat → Nat) (idx : List Nat) : ∀ k, ext (single w idx) (selL L l) k = sumN (fun i => con L (l i) k) idx
  | 0 => by rw [ext, cnt_single]; rfl
  | k + 1 => by
    rw [ext, cnt_single, ext_single w L l idx k]
    simp only [con]
    rw [sumN_add]
    rw [sumN_mul, sumN_congr (g := fun i => if L - (k + 1) ≤ l i then 2 ^ (k + 1) else 0)]
    intro i _
    split <;> simp
/-- the cost of a choice -/
def num (L x : Nat) : Nat → Nat
  | 0 => if L ≤ x then 1 else 0
  | k + 1 => (if L - (k + 1) ≤ x then 1 else 0) + num L x k
theorem num_val {L x : Nat} (hx : x ≤ L) : ∀ k, k < L → (L - x ≤ k → num L x k + (L - x) = k + 1) ∧ (k < L - x → num L x k = 0)
  | 0, hk => by
    constructor
    · intro h
      have : x = L := by omega
      subst this
      simp [num]
    · intro h
      rw [num, if_neg (by omega)]
  | k + 1, hk => by
    obtain ⟨h1, h2⟩ := num_val hx k (by omega)
    constructor
    · intro h
      rw [num, if_pos (by omega)]
      by_cases h3 : L - x ≤ k
      · have := h1 h3
        omega
      · rw [h2 (by omega)]
        omega
    · intro h
      rw [num, if_neg (by omega), h2 (by omega)]
theorem tot_single (w : Nat → Int) (L : Nat) (l : Nat → Nat) (t : Nat) : ∀ idx, tot ((single w idx).filter (selL L l t)) = sumI (fun i => w i * ((if L - t ≤ l i then 1 else 0 : Nat) : Int)) idx := by
  intro idx
  induction idx with
  | nil => rfl
  | cons i idx ih =>
    unfold single at ih ⊢
    simp only [List.map_cons, List.filter_cons, sumI]
    have : selL L l t (w i, [i]) = decide (L - t ≤ l i) := rfl
    rw [this]
    by_cases h : L - t ≤ l i
    · rw [decide_eq_true h, if_pos rfl, if_pos h, tot, ih]; simp
    · rw [decide_eq_false h, if_neg (by decide), if_neg h, ih]; simp
theorem cost_single (w : Nat → Int) (L : Nat) (l : Nat → Nat) (idx : List Nat) : ∀ k, costS (single w idx) (selL L l) k = sumI (fun i => w i * (num L (l i) k : Int)) idx
  | 0 => by rw [costS, tot_single]; rfl
  | k + 1 => by
    rw [costS, tot_single, cost_single w L l idx k, ← sumI_add]
    refine sumI_congr fun i _ => ?_
    rw [num, Int.natCast_add, Int.mul_add]
theorem single_len (w : Nat → Int) (idx : List Nat) : (single w idx).length = idx.length := by simp [single]
theorem single_pos {w : Nat → Int} {idx : List Nat} (h : ∀ i ∈ idx, 0 ≤ w i) : ∀ c ∈ single w idx, 0 ≤ c.1 := fun c hc => by
  obtain ⟨i, hi, rfl⟩ := List.mem_map.1 hc
  exact h i hi
/-- no code of L bits at most costs less -/
theorem best_low {w : Nat → Int} {idx : List Nat} {L : Nat} (hs : Srt (single w idx)) (h0 : ∀ i ∈ idx, 0 ≤ w i) (l : Nat → Nat) (hl : ∀ i ∈ idx, 1 ≤ l i ∧ l i ≤ L + 1)
    (hk : sumN (fun i => 2 ^ (L + 1 - l i)) idx ≤ 2 ^ (L + 1)) : tot ((lists (single w idx) L).take (2 * idx.length - 2)) ≤ sumI (fun i => w i * (l i : Int)) idx := by
  obtain ⟨h1, h2⟩ := low hs (single_pos h0) (selL (L + 1) l) L
  have hx : ext (single w idx) (selL (L + 1) l) L + sumN (fun i => 2 ^ (L + 1 - l i)) idx = 2 ^ (L + 1) * idx.length := by
    rw [ext_single, ← sumN_add, ← sumN_const (2 ^ (L + 1)) idx]
    exact sumN_congr fun i hi => ((con_val (hl i hi).2 L).1 (by have := (hl i hi).1; omega))
  have hc : costS (single w idx) (selL (L + 1) l) L = sumI (fun i => w i * (l i : Int)) idx := by
    rw [cost_single]
    refine sumI_congr fun i hi => ?_
    have := (num_val (hl i hi).2 L (by omega)).1 (by have := (hl i hi).1; omega)
    have h3 := hl i hi
    rw [show num (L + 1) (l i) L = l i by omega]
  have hw : 2 * idx.length - 2 ≤ wide (single w idx) (selL (L + 1) l) L := by
    rw [wide_ext]
    refine (Nat.le_div_iff_mul_le (Nat.two_pow_pos L)).2 ?_
    rw [Nat.pow_succ] at hx hk
    have e : (2 * idx.length - 2) * 2 ^ L = 2 ^ L * 2 * idx.length - 2 ^ L * 2 := by
      rw [Nat.sub_mul, Nat.mul_comm (2 * idx.length), ← Nat.mul_assoc, Nat.mul_comm 2 (2 ^ L)]
    rw [e]
    omega
  have h3 := tot_take_mono (lists_nonneg (single_pos h0) L) hw
  rw [hc] at h2
  omega
/-! ### the code that the lists make -/
def exts : List Nat → Nat
  | [] => 0
  | x :: a => x * 2 ^ a.length + exts a
def lay (idx : List Nat) : List Nat → List Nat
  | [] => []
  | x :: a => idx.take x ++ lay idx a
theorem signs_perm {a b : List Coin} (p : a.Perm b) : (signs a).Perm (signs b) := p.flatMap_right _
theorem signs_app (a b : List Coin) : signs (a ++ b) = signs a ++ signs b := by simp [signs]
theorem signs_single (w : Nat → Int) : ∀ idx, signs (single w idx) = idx := by
  intro idx
  induction idx with
  | nil => rfl
  | cons i idx ih =>
    unfold signs single at ih ⊢
    simp only [List.map_cons, List.flatMap_cons, ih]
    rfl
theorem high (w : Nat → Int) (idx : List Nat) : ∀ k m, m ≤ (lists (single w idx) k).length → ∃ a : List Nat, a.length = k + 1 ∧ (∀ x ∈ a, x ≤ idx.length) ∧ exts a = m * 2 ^ k ∧ (signs ((lists (single w idx) k).take m)).Perm (lay idx a)
  | 0, m, hm => by
    rw [lists, single_len] at hm
    refine ⟨[m], rfl, fun x hx => by rw [List.mem_singleton.1 hx]; exact hm, by simp [exts], ?_⟩
    rw [lists, lay, lay, List.append_nil]
    have : (single w idx).take m = single w (idx.take m) := by simp [single, List.map_take]
    rw [this, signs_single]
  | k + 1, m, hm => by
    rw [lists, merged_len] at hm
    obtain ⟨x, y, e, h1, h2, p⟩ := merged_take _ _ m hm
    rw [pairs_len] at h2
    rw [single_len] at h1
    obtain ⟨a, ha, hb, hc, q⟩ := high w idx k (2 * y) (by omega)
    refine ⟨x :: a, by rw [List.length_cons, ha], fun z hz => ?_, ?_, ?_⟩
    · rcases List.mem_cons.1 hz with rfl | hz
      · exact h1
      · exact hb z hz
    · rw [exts, ha, hc, ← e, Nat.add_mul, Nat.pow_succ, Nat.mul_comm 2 y, Nat.mul_assoc y 2, Nat.mul_comm 2 (2 ^ k)]
    · refine (signs_perm p).trans ?_
      rw [signs_app, lay]
      have : (single w idx).take x = single w (idx.take x) := by simp [single, List.map_take]
      rw [this, signs_single, (pairs_take _ _ (by omega)).2]
      exact List.Perm.append_left _ q
def depth (a : List Nat) (p : Nat) : Nat := (a.filter fun x => decide (p < x)).length
def part (p : Nat) : List Nat → Nat
  | [] => 0
  | x :: a => (if p < x then 2 ^ a.length else 0) + part p a
theorem depth_cons (x : Nat) (a : List Nat) (p : Nat) : depth (x :: a) p = (if p < x then 1 else 0) + depth a p := by
  unfold depth
  rw [List.filter_cons]
  by_cases h : p < x
  · rw [decide_eq_true h, if_pos rfl, if_pos h, List.length_cons]; omega
  · rw [decide_eq_false h, if_neg (by decide), if_neg h]; omega
theorem depth_le (a : List Nat) (p : Nat) : depth a p ≤ a.length := List.length_filter_le _ _
theorem depth_mono (a : List Nat) {p q : Nat} (h : p ≤ q) : depth a q ≤ depth a p := by
  induction a with
  | nil => exact Nat.le_refl _
  | cons x a ih =>
    rw [depth_cons, depth_cons]
    by_cases h1 : q < x
    · rw [if_pos h1, if_pos (by omega)]; omega
    · rw [if_neg h1]; omega
theorem part_le (p : Nat) : ∀ a : List Nat, part p a + 2 ^ (a.length - depth a p) ≤ 2 ^ a.length
  | [] => by simp [part, depth]
  | x :: a => by
    have ih := part_le p a
    have hd := depth_le a p
    rw [part, depth_cons, List.length_cons]
    by_cases h : p < x
    · rw [if_pos h, if_pos h, show a.length + 1 - (1 + depth a p) = a.length - depth a p by omega, Nat.pow_succ]
      omega
    · rw [if_neg h, if_neg h, Nat.zero_add, Nat.zero_add, show a.length + 1 - depth a p = a.length - depth a p + 1 by omega, Nat.pow_succ, Nat.pow_succ]
      omega
theorem range_lt (c x : Nat) : ∀ n, x ≤ n → sumN (fun p => if p < x then c else 0) (List.range n) = x * c
  | 0, h => by
    have : x = 0 := by omega
    subst this
    simp [sumN]
  | n + 1, h => by
    rw [List.range_succ, sumN_app]
    by_cases hx : x = n + 1
    · have e : sumN (fun p => if p < x then c else 0) (List.range n) = sumN (fun _ => c) (List.range n) := sumN_congr fun i hi => if_pos (by have := List.mem_range.1 hi; omega)
      rw [e, sumN_const, List.length_range]
      simp only [sumN]
      rw [if_pos (by omega), hx, Nat.succ_mul, Nat.mul_comm]
      omega
    · rw [range_lt c x n (by omega)]
      simp only [sumN]
      rw [if_neg (by omega)]
      omega
theorem exts_part {n : Nat} : ∀ a : List Nat, (∀ x ∈ a, x ≤ n) → sumN (fun p => part p a) (List.range n) = exts a
  | [], _ => by
    have : sumN (fun p => part p []) (List.range n) = sumN (fun _ => 0) (List.range n) := rfl
    rw [this, sumN_const, Nat.zero_mul]
    rfl
  | x :: a, h => by
    have e : sumN (fun p => part p (x :: a)) (List.range n) = sumN (fun p => (if p < x then 2 ^ a.length else 0) + part p a) (List.range n) := rfl
    rw [e, sumN_add, range_lt _ _ _ (h x List.mem_cons_self), exts_part a fun y hy => h y (List.mem_cons_of_mem _ hy), exts]
theorem kraft_depth {n : Nat} {a : List Nat} (h : ∀ x ∈ a, x ≤ n) : sumN (fun p => 2 ^ (a.length - depth a p)) (List.range n) + exts a ≤ 2 ^ a.length * n := by
  rw [← exts_part a h, ← sumN_add, ← List.length_range (n := n), ← sumN_const, List.length_range]
  exact sumN_le fun p _ => by have := part_le p a; omega
theorem count_take {idx : List Nat} (hn : idx.Nodup) {p i : Nat} (hp : idx[p]? = some i) (x : Nat) : List.count i (idx.take x) = if p < x then 1 else 0 := by
  have hlt := (List.getElem?_eq_some_iff.1 hp).1
  by_cases h : p < x
  · rw [if_pos h]
    have hm : i ∈ idx.take x := List.mem_of_getElem? (by rw [List.getElem?_take, if_pos h]; exact hp)
    have h1 := List.nodup_iff_count.1 (hn.sublist (List.take_sublist x idx)) i
    have h2 := List.count_pos_iff.2 hm
    omega
  · rw [if_neg h]
    refine List.count_eq_zero.2 fun hm => ?_
    obtain ⟨q, hq⟩ := List.mem_iff_getElem?.1 hm
    rw [List.getElem?_take] at hq
    split at hq
    · rename_i hqx
      obtain ⟨b1, e1⟩ := List.getElem?_eq_some_iff.1 hq
      obtain ⟨b2, e2⟩ := List.getElem?_eq_some_iff.1 hp
      have := List.pairwise_iff_getElem.1 (List.nodup_iff_pairwise_ne.1 hn) q p b1 b2 (by omega)
      rw [e1, e2] at this
      exact this rfl
    · cases hq
theorem count_lay {idx : List Nat} (hn : idx.Nodup) {p i : Nat} (hp : idx[p]? = some i) : ∀ a, List.count i (lay idx a) = depth a p
  | [] => by simp [lay, depth]
  | x :: a => by rw [lay, List.count_append, count_take hn hp, count_lay hn hp a, depth_cons]
theorem sumN_range {idx : List Nat} (f : Nat → Nat) (g : Nat → Nat) (h : ∀ p i, idx[p]? = some i → f i = g p) : sumN f idx = sumN g (List.range idx.length) := by
  have e : idx = (List.range idx.length).map fun p => idx.getD p 0 := by
    apply List.ext_getElem?
    intro k
    rw [List.getElem?_map]
    rcases Nat.lt_or_ge k idx.length with hk | hk
    · rw [List.getElem?_range hk, Option.map_some, List.getD_eq_getElem?_getD, List.getElem?_eq_getElem hk]
      rfl
    · rw [List.getElem?_eq_none hk, List.getElem?_eq_none (by simpa using hk)]
      rfl
  conv => lhs; rw [e]
  rw [sumN_map]
  refine sumN_congr fun p hp => ?_
  have hp' := List.mem_range.1 hp
  exact h p _ (by rw [List.getD_eq_getElem?_getD, List.getElem?_eq_getElem hp']; rfl)
/-- what is told: how often each sign is among the first coins -/
def outP (w : Nat → Int) (idx : List Nat) (L : Nat) (i : Nat) : Nat := List.count i (signs ((lists (single w idx) L).take (2 * idx.length - 2)))
theorem worth_signs {w : Nat → Int} : ∀ {l : List Coin}, (∀ c ∈ l, c.1 = sumI w c.2) → tot l = sumI w (signs l)
  | [], _ => rfl
  | c :: l, h => by
    rw [tot, worth_signs fun d hd => h d (List.mem_cons_of_mem _ hd), h c List.mem_cons_self]
    unfold signs
    rw [List.flatMap_cons, sumI_app]
theorem pairs_worth {w : Nat → Int} : ∀ l : List Coin, (∀ c ∈ l, c.1 = sumI w c.2) → ∀ c ∈ pairs l, c.1 = sumI w c.2 := by
  refine pairs_ind (fun _ c hc => by cases hc) (fun _ _ c hc => by cases hc) fun a b l ih h c hc => ?_
  rw [pairs] at hc
  rcases List.mem_cons.1 hc with rfl | hc
  · dsimp only
    rw [sumI_app, ← h a List.mem_cons_self, ← h b (List.mem_cons_of_mem _ List.mem_cons_self)]
  · exact ih (fun c hc => h c (List.mem_cons_of_mem _ (List.mem_cons_of_mem _ hc))) c hc
theorem lists_worth (w : Nat → Int) (idx : List Nat) : ∀ k, ∀ c ∈ lists (single w idx) k, c.1 = sumI w c.2
  | 0 => fun c hc => by
    obtain ⟨i, _, rfl⟩ := List.mem_map.1 hc
    simp [sumI]
  | k + 1 => fun c hc => by
    rcases List.mem_append.1 ((merged_perm _ _).mem_iff.1 hc) with hc | hc
    · obtain ⟨i, _, rfl⟩ := List.mem_map.1 hc
      simp [sumI]
    · exact pairs_worth _ (lists_worth w idx k) c hc
theorem lay_mem {idx : List Nat} : ∀ a, ∀ i ∈ lay idx a, i ∈ idx
  | [], i, h => by cases h
  | x :: a, i, h => by
    rcases List.mem_append.1 h with h | h
    · exact List.mem_of_mem_take h
    · exact lay_mem a i h
/-- the code that is told: right lengths, KRAFT, the order, the least cost -/
theorem best {w : Nat → Int} {idx : List Nat} {L : Nat} (hs : Srt (single w idx)) (hn : idx.Nodup) (h0 : ∀ i ∈ idx, 0 ≤ w i) (h2 : 2 ≤ idx.length) (hL : idx.length ≤ 2 ^ (L + 1)) :
    2 * idx.length - 2 ≤ (lists (single w idx) L).length ∧ (∀ i ∈ idx, 1 ≤ outP w idx L i ∧ outP w idx L i ≤ L + 1) ∧ (∀ i, i ∉ idx → outP w idx L i = 0) ∧ sumN (fun i => 2 ^ (L + 1 - outP w idx L i)) idx ≤ 2 ^ (L + 1) ∧
    (∀ i ∈ idx, ∀ j ∈ idx, w i < w j → outP w idx L j ≤ outP w idx L i) ∧
    ∀ l : Nat → Nat, (∀ i ∈ idx, 1 ≤ l i ∧ l i ≤ L + 1) → sumN (fun i => 2 ^ (L + 1 - l i)) idx ≤ 2 ^ (L + 1) → sumI (fun i => w i * (outP w idx L i : Int)) idx ≤ sumI (fun i => w i * (l i : Int)) idx := by
  have hm := lists_enough (s := single w idx) (L := L) (by rw [single_len]; exact hL)
  rw [single_len] at hm
  obtain ⟨a, ha, hb, hc, p⟩ := high w idx L _ hm
  have hcnt : ∀ i, outP w idx L i = List.count i (lay idx a) := fun i => p.count_eq i
  have hat : ∀ q i, idx[q]? = some i → outP w idx L i = depth a q := fun q i hq => by rw [hcnt, count_lay hn hq]
  have hK : sumN (fun i => 2 ^ (L + 1 - outP w idx L i)) idx ≤ 2 ^ (L + 1) := by
    rw [sumN_range _ (fun q => 2 ^ (L + 1 - depth a q)) fun q i hq => by rw [hat q i hq]]
    have hk := kraft_depth hb
    rw [ha, hc] at hk
    have e : (2 * idx.length - 2) * 2 ^ L = 2 ^ (L + 1) * idx.length - 2 ^ (L + 1) := by
      rw [Nat.sub_mul, Nat.mul_comm (2 * idx.length), ← Nat.mul_assoc, Nat.mul_comm 2 (2 ^ L), Nat.pow_succ]
    rw [e] at hk
    have : 2 ^ (L + 1) ≤ 2 ^ (L + 1) * idx.length := Nat.le_mul_of_pos_right _ (by omega)
    omega
  have hle : ∀ i, outP w idx L i ≤ L + 1 ∨ i ∉ idx := fun i => by
    by_cases hi : i ∈ idx
    · obtain ⟨q, hq⟩ := List.mem_iff_getElem?.1 hi
      have := depth_le a q
      rw [hat q i hq]
      exact .inl (by omega)
    · exact .inr hi
  refine ⟨hm, fun i hi => ⟨?_, (hle i).resolve_right fun h => h hi⟩, fun i hi => ?_, hK, fun i hi j hj hw => ?_, fun l hl hk => ?_⟩
  · rcases Nat.eq_zero_or_pos (outP w idx L i) with h | h
    · exfalso
      obtain ⟨s1, s2, e⟩ := List.append_of_mem hi
      have pe : idx.Perm (i :: (s1 ++ s2)) := by rw [e]; exact List.perm_middle
      rw [sumN_perm _ pe, sumN, h, Nat.sub_zero] at hK
      have hl := pe.length_eq
      rw [List.length_cons] at hl
      cases hs12 : s1 ++ s2 with
      | nil => rw [hs12] at hl; simp at hl; omega
      | cons y t =>
        rw [hs12, sumN] at hK
        have := Nat.two_pow_pos (L + 1 - outP w idx L y)
        omega
    · exact h
  · rw [hcnt]
    exact List.count_eq_zero.2 fun h => hi (lay_mem a i h)
  · obtain ⟨q, hq⟩ := List.mem_iff_getElem?.1 hi
    obtain ⟨r, hr⟩ := List.mem_iff_getElem?.1 hj
    rw [hat q i hq, hat r j hr]
    refine depth_mono a ?_
    rcases Nat.lt_or_ge r q with h | h
    · exfalso
      have hsq : (single w idx)[q]? = some (w i, [i]) := by unfold single; rw [List.getElem?_map, hq]; rfl
      have hsr : (single w idx)[r]? = some (w j, [j]) := by unfold single; rw [List.getElem?_map, hr]; rfl
      obtain ⟨b1, e1⟩ := List.getElem?_eq_some_iff.1 hsq
      obtain ⟨b2, e2⟩ := List.getElem?_eq_some_iff.1 hsr
      have := List.pairwise_iff_getElem.1 hs r q b2 b1 h
      rw [e1, e2] at this
      dsimp only at this
      omega
    · exact h
  · have h1 := best_low hs h0 l hl hk
    rw [worth_signs fun c hc => lists_worth w idx L c (List.mem_of_mem_take hc), sumI_count w hn] at h1
    · exact h1
    · intro i hi
      exact lay_mem a i (p.mem_iff.1 hi)
end Go.Proofs.Ytppnaofebkpbkaa.pm

