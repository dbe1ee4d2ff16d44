/-
  Sorting that keeps the order of what is alike: what it makes, and that it can be put together (no program).
-/
namespace Go.Proofs.Ytppnaofebkpbkaa.srt
set_option linter.unusedVariables false
variable {α : Type}
/-- something with a number by which it is sorted -/
class Key (α : Type) where
  k : α → Int
section
variable [Key α]
def kf (x : α) : Int := Key.k x
def Srt (l : List α) : Prop := l.Pairwise fun a b => kf a ≤ kf b
/-- what is alike stands in one order -/
def Seq (a b : List α) : Prop := ∀ k : Int, a.filter (fun x => kf x == k) = b.filter (fun x => kf x == k)
theorem Seq.refl (a : List α) : Seq a a := fun _ => rfl
theorem Seq.symm {a b : List α} (h : Seq a b) : Seq b a := fun k => (h k).symm
theorem Seq.trans {a b c : List α} (h : Seq a b) (g : Seq b c) : Seq a c := fun k => (h k).trans (g k)
theorem Seq.app {a b c d : List α} (h : Seq a b) (g : Seq c d) : Seq (a ++ c) (b ++ d) := fun k => by rw [List.filter_append, List.filter_append, h k, g k]
theorem Seq.mem {a b : List α} (h : Seq a b) {x : α} (hx : x ∈ a) : x ∈ b := by
  have h1 : x ∈ a.filter (fun y => kf y == kf x) := List.mem_filter.2 ⟨hx, beq_self_eq_true _⟩
  rw [h (kf x)] at h1
  exact (List.mem_filter.1 h1).1
theorem Seq.len {a b : List α} (h : Seq a b) : a.length = b.length := by
  have : ∀ (n : Nat) (a b : List α), a.length = n → Seq a b → a.length = b.length := by
    intro n
    induction n using Nat.strongRecOn with
    | _ n ih =>
      intro a b hn h
      cases a with
      | nil =>
        cases b with
        | nil => rfl
        | cons y b => exact absurd (h.symm.mem List.mem_cons_self) List.not_mem_nil
      | cons x a =>
        have split : ∀ l : List α, l.length = (l.filter (fun y => kf y == kf x)).length + (l.filter (fun y => !(kf y == kf x))).length := fun l => by
          induction l with
          | nil => rfl
          | cons y l ihl =>
            by_cases hy : (kf y == kf x) = true
            · rw [List.filter_cons, List.filter_cons, hy]
              simp only [Bool.not_true, if_true, Bool.false_eq_true, if_false, List.length_cons]
              omega
            · have hy' : (kf y == kf x) = false := by simpa using hy
              rw [List.filter_cons, List.filter_cons, hy']
              simp only [Bool.not_false, if_true, Bool.false_eq_true, if_false, List.length_cons]
              omega
        have hS : Seq ((x :: a).filter (fun y => !(kf y == kf x))) (b.filter (fun y => !(kf y == kf x))) := fun k => by
          rw [List.filter_filter, List.filter_filter]
          have e : ∀ l : List α, l.filter (fun y => (kf y == k) && !(kf y == kf x)) = if k = kf x then [] else l.filter (fun y => kf y == k) := fun l => by
            split
            · rename_i hk
              rw [List.filter_eq_nil_iff]
              intro y _
              rw [hk]
              cases (kf y == kf x) <;> simp
            · rename_i hk
              refine List.filter_congr fun y _ => ?_
              by_cases h1 : kf y = k
              · have : ¬ kf y = kf x := fun h2 => hk (h1 ▸ h2)
                simp [h1, hk]
              · simp [h1]
          rw [e, e, h k]
        have hlt : ((x :: a).filter (fun y => !(kf y == kf x))).length < n := by
          have := split (x :: a)
          have h2 : 0 < ((x :: a).filter (fun y => kf y == kf x)).length := by simp
          omega
        have := ih _ hlt _ _ rfl hS
        rw [split (x :: a), split b, h (kf x), this]
  exact this _ a b rfl h
theorem seq_uniq : ∀ {a b : List α}, Srt a → Srt b → Seq a b → a = b := by
  intro a
  induction a with
  | nil =>
    intro b _ _ h
    have := h.len
    exact (List.eq_nil_of_length_eq_zero this.symm).symm
  | cons x a ih =>
    intro b ha hb h
    have ha' := List.pairwise_cons.1 ha
    cases b with
    | nil => exact absurd (h.mem List.mem_cons_self) List.not_mem_nil
    | cons y b =>
      have hb' := List.pairwise_cons.1 hb
      have hxy : kf x = kf y := by
        have h1 : kf y ≤ kf x := by
          rcases List.mem_cons.1 (h.mem List.mem_cons_self) with e | e
          · rw [e]; exact Int.le_refl _
          · exact hb'.1 x e
        have h2 : kf x ≤ kf y := by
          rcases List.mem_cons.1 (h.symm.mem List.mem_cons_self) with e | e
          · rw [e]; exact Int.le_refl _
          · exact ha'.1 y e
        omega
      have hk := h (kf x)
      rw [List.filter_cons, List.filter_cons, if_pos (beq_self_eq_true _), if_pos (by rw [hxy]; exact beq_self_eq_true _)] at hk
      simp only [List.cons.injEq] at hk
      obtain ⟨rfl, hk⟩ := hk
      congr 1
      refine ih ha'.2 hb'.2 fun k => ?_
      by_cases e : k = kf x
      · rw [e]; exact hk
      · have h3 := h k
        rw [List.filter_cons, List.filter_cons] at h3
        have : (kf x == k) = false := by simpa using fun e2 => e e2.symm
        rw [this] at h3
        simpa using h3
/-- insertion from the right -/
def ins (x : α) : List α → List α
  | [] => [x]
  | y :: l => if kf x ≤ kf y then x :: y :: l else y :: ins x l
def sortW : List α → List α
  | [] => []
  | x :: l => ins x (sortW l)
theorem ins_mem {x y : α} : ∀ {l : List α}, y ∈ ins x l ↔ y = x ∨ y ∈ l
  | [] => by simp [ins]
  | z :: l => by
    rw [ins]
    split
    · simp
    · rw [List.mem_cons, ins_mem, List.mem_cons]
      constructor
      · rintro (h | h | h)
        · exact .inr (.inl h)
        · exact .inl h
        · exact .inr (.inr h)
      · rintro (h | h | h)
        · exact .inr (.inl h)
        · exact .inl h
        · exact .inr (.inr h)
theorem ins_srt {x : α} : ∀ {l : List α}, Srt l → Srt (ins x l)
  | [], _ => by simp [ins, Srt]
  | y :: l, h => by
    have h' := List.pairwise_cons.1 h
    rw [ins]
    split
    · rename_i hx
      refine List.pairwise_cons.2 ⟨fun z hz => ?_, h⟩
      rcases List.mem_cons.1 hz with rfl | hz
      · exact hx
      · exact Int.le_trans hx (h'.1 z hz)
    · rename_i hx
      refine List.pairwise_cons.2 ⟨fun z hz => ?_, ins_srt h'.2⟩
      rcases ins_mem.1 hz with rfl | hz
      · omega
      · exact h'.1 z hz
theorem ins_seq {x : α} : ∀ {l : List α}, Seq (ins x l) (x :: l)
  | [] => Seq.refl _
  | y :: l => by
    rw [ins]
    split
    · exact Seq.refl _
    · rename_i hx
      intro k
      have h1 := ins_seq (x := x) (l := l) k
      simp only [List.filter_cons] at h1 ⊢
      rw [h1]
      by_cases hxk : (kf x == k) = true
      · by_cases hyk : (kf y == k) = true
        · simp only [beq_iff_eq] at hxk hyk; omega
        · simp [hxk, hyk]
      · simp [hxk]
theorem sortW_srt : ∀ l : List α, Srt (sortW l)
  | [] => List.Pairwise.nil
  | x :: l => ins_srt (sortW_srt l)
theorem sortW_seq : ∀ l : List α, Seq (sortW l) l
  | [] => Seq.refl _
  | x :: l => ins_seq.trans (Seq.app (Seq.refl [x]) (sortW_seq l))
theorem sortW_len (l : List α) : (sortW l).length = l.length := (sortW_seq l).len
theorem sortW_mem {l : List α} {x : α} : x ∈ sortW l ↔ x ∈ l := ⟨(sortW_seq l).mem, (sortW_seq l).symm.mem⟩
theorem sort_is {a l : List α} (h : Srt a) (g : Seq a l) : a = sortW l := seq_uniq h (sortW_srt l) (g.trans (sortW_seq l).symm)
theorem sortW_of {l : List α} (h : Srt l) : sortW l = l := (sort_is h (Seq.refl l)).symm
theorem sortW_app (a b : List α) : sortW (sortW a ++ sortW b) = sortW (a ++ b) := sort_is (sortW_srt _) ((sortW_seq _).trans (Seq.app (sortW_seq a) (sortW_seq b)))
/-- what has no number in common may change places -/
theorem seq_swap {a b : List α} (h : ∀ x ∈ a, ∀ y ∈ b, kf x ≠ kf y) : Seq (a ++ b) (b ++ a) := fun k => by
  rw [List.filter_append, List.filter_append]
  by_cases h1 : a.filter (fun x => kf x == k) = []
  · rw [h1]; simp
  · have h2 : b.filter (fun x => kf x == k) = [] := by
      rw [List.filter_eq_nil_iff]
      intro y hy hyk
      obtain ⟨x, hx⟩ := List.exists_mem_of_ne_nil _ h1
      obtain ⟨hx1, hx2⟩ := List.mem_filter.1 hx
      exact h x hx1 y hy (by simp only [beq_iff_eq] at hx2 hyk; omega)
    rw [h2]; simp
theorem srt_app {a b : List α} : Srt (a ++ b) ↔ Srt a ∧ Srt b ∧ ∀ x ∈ a, ∀ y ∈ b, kf x ≤ kf y := List.pairwise_append
/-- something is put into its place -/
theorem put_right {a b : List α} {x : α} (ha : Srt (a ++ b)) (h1 : ∀ y ∈ a, kf y ≤ kf x) (h2 : ∀ y ∈ b, kf x < kf y) : a ++ x :: b = sortW (a ++ b ++ [x]) := by
  obtain ⟨g1, g2, g3⟩ := srt_app.1 ha
  refine sort_is (srt_app.2 ⟨g1, List.pairwise_cons.2 ⟨fun y hy => Int.le_of_lt (h2 y hy), g2⟩, fun y hy z hz => ?_⟩) ?_
  · rcases List.mem_cons.1 hz with rfl | hz
    · exact h1 y hy
    · exact g3 y hy z hz
  · rw [List.append_assoc]
    refine Seq.app (Seq.refl a) ?_
    have := seq_swap (a := [x]) (b := b) fun y hy z hz => by
      rw [List.mem_singleton.1 hy]
      have := h2 z hz
      omega
    exact this
theorem put_left {a b : List α} {x : α} (ha : Srt (a ++ b)) (h1 : ∀ y ∈ a, kf y < kf x) (h2 : ∀ y ∈ b, kf x ≤ kf y) : a ++ x :: b = sortW (x :: (a ++ b)) := by
  obtain ⟨g1, g2, g3⟩ := srt_app.1 ha
  refine sort_is (srt_app.2 ⟨g1, List.pairwise_cons.2 ⟨h2, g2⟩, fun y hy z hz => ?_⟩) ?_
  · rcases List.mem_cons.1 hz with rfl | hz
    · exact Int.le_of_lt (h1 y hy)
    · exact g3 y hy z hz
  · have := seq_swap (a := a) (b := [x]) fun y hy z hz => by
      rw [List.mem_singleton.1 hz]
      have := h1 y hy
      omega
    have h3 := Seq.app this (Seq.refl b)
    simpa using h3
/-- two halves, parted right -/
theorem halves {a1 a2 b1 b2 : List α} (ha : Srt (a1 ++ a2)) (hb : Srt (b1 ++ b2)) (h1 : ∀ x ∈ a1, ∀ y ∈ b2, kf x ≤ kf y) (h2 : ∀ x ∈ b1, ∀ y ∈ a2, kf x < kf y) :
    sortW (a1 ++ b1) ++ sortW (a2 ++ b2) = sortW (a1 ++ a2 ++ (b1 ++ b2)) := by
  obtain ⟨_, _, ga⟩ := srt_app.1 ha
  obtain ⟨_, _, gb⟩ := srt_app.1 hb
  refine sort_is (srt_app.2 ⟨sortW_srt _, sortW_srt _, fun x hx y hy => ?_⟩) ?_
  · rw [sortW_mem, List.mem_append] at hx hy
    rcases hx with hx | hx <;> rcases hy with hy | hy
    · exact ga x hx y hy
    · exact h1 x hx y hy
    · exact Int.le_of_lt (h2 x hx y hy)
    · exact gb x hx y hy
  · refine (Seq.app (sortW_seq _) (sortW_seq _)).trans ?_
    have := Seq.app (Seq.app (Seq.refl a1) (seq_swap (a := b1) (b := a2) fun x hx y hy => by have := h2 x hx y hy; omega)) (Seq.refl b2)
    simpa using this
/-- sorted block by block -/
def sortB (n : Nat) : Nat → List α → List α
  | 0, l => sortW l
  | f + 1, l => if l.length ≤ n then sortW l else sortW (l.take n) ++ sortB n f (l.drop n)
end
end Go.Proofs.Ytppnaofebkpbkaa.srt
