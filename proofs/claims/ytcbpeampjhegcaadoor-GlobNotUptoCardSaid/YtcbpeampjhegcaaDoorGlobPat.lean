/-
  glob: patterns, and what they take (no program).
-/
import Derived.Test.YtcbpeampjhegcaaDoorGlobLaw
namespace Go.Proofs.YtcbpeampjhegcaaDoor.glob
open Go.RowKit kit sl
set_option linter.unusedVariables false
/-- run, not, spans -/
abbrev Pt := Bool × Bool × List (Nat × Nat)
def strokeS : List Nat → Option (Nat × Bool × List Nat)
  | [] => none
  | d :: r => some (d, true, r)
def nextS : List Nat → Option (Nat × Bool × List Nat)
  | [] => none
  | c :: r => if c = 92 then strokeS r else some (c, false, r)
theorem next_less {l r : List Nat} {c : Nat} {b : Bool} (h : nextS l = some (c, b, r)) : r.length < l.length ∧ ∃ a, l = a ++ r := by
  cases l with
  | nil => cases h
  | cons x t =>
    rw [nextS] at h
    by_cases hx : x = 92
    · rw [if_pos hx] at h
      cases t with
      | nil => cases h
      | cons d t => cases h; exact ⟨by simp only [List.length_cons]; omega, [x, c], rfl⟩
    · rw [if_neg hx] at h
      cases h
      exact ⟨by simp, [c], rfl⟩
theorem next_app {l r : List Nat} {c : Nat} {b : Bool} (x : List Nat) (h : nextS l = some (c, b, r)) : nextS (l ++ x) = some (c, b, r ++ x) := by
  cases l with
  | nil => cases h
  | cons y t =>
    rw [nextS] at h
    rw [List.cons_append, nextS]
    by_cases hx : y = 92
    · rw [if_pos hx] at h ⊢
      cases t with
      | nil => cases h
      | cons d t => cases h; rfl
    · rw [if_neg hx] at h ⊢
      cases h
      rfl
/-- behind a sign: the range's end begins here -/
def rangeS : List Nat → Option (List Nat)
  | x :: d :: r => if x = 45 ∧ d ≠ 93 then some (d :: r) else none
  | _ => none
theorem range_less {l r : List Nat} (h : rangeS l = some r) : r.length < l.length := by
  match l, h with
  | x :: d :: t, h =>
    rw [rangeS] at h
    split at h
    · cases h; simp
    · cases h
theorem range_app {l r : List Nat} (x : List Nat) (h : rangeS l = some r) : rangeS (l ++ x) = some (r ++ x) := by
  match l, h with
  | y :: d :: t, h =>
    rw [rangeS] at h
    rw [List.cons_append, List.cons_append, rangeS]
    split at h
    · rename_i h1; rw [if_pos h1]; cases h; rfl
    · cases h
/-- a class, from a place within it on -/
def classF : Nat → List Nat → List (Nat × Nat) → Option (List (Nat × Nat) × List Nat)
  | 0, _, _ => none
  | f + 1, l, acc =>
    match nextS l with
    | none => none
    | some (c, plain, r) =>
      if c = 93 ∧ plain = false then (if acc = [] then none else some (acc, r)) else
      match rangeS r with
      | none => classF f r (acc ++ [(c, c)])
      | some r' =>
        match nextS r' with
        | none => none
        | some (h, _, r2) => if h < c then none else classF f r2 (acc ++ [(c, h)])
theorem classF_less : ∀ (f : Nat) (l : List Nat) (acc : List (Nat × Nat)) (sp : List (Nat × Nat)) (r : List Nat), classF f l acc = some (sp, r) → r.length < l.length ∧ sp ≠ []
  | 0, _, _, _, _, h => by cases h
  | f + 1, l, acc, sp, r, h => by
    rw [classF] at h
    cases hn : nextS l with
    | none => rw [hn] at h; cases h
    | some x =>
      obtain ⟨c, plain, t⟩ := x
      have hl := (next_less hn).1
      rw [hn] at h
      dsimp only at h
      by_cases hc : c = 93 ∧ plain = false
      · rw [if_pos hc] at h
        by_cases ha : acc = []
        · rw [if_pos ha] at h; cases h
        · rw [if_neg ha] at h; cases h; exact ⟨hl, ha⟩
      · rw [if_neg hc] at h
        cases hg : rangeS t with
        | none =>
          rw [hg] at h
          have := classF_less f _ _ _ _ h
          exact ⟨by omega, this.2⟩
        | some r' =>
          rw [hg] at h
          dsimp only at h
          have hl3 := range_less hg
          cases hm : nextS r' with
          | none => rw [hm] at h; cases h
          | some y =>
            obtain ⟨hh, _, r2⟩ := y
            have hl2 := (next_less hm).1
            rw [hm] at h
            dsimp only at h
            by_cases hlt : hh < c
            · rw [if_pos hlt] at h; cases h
            · rw [if_neg hlt] at h
              have := classF_less f _ _ _ _ h
              exact ⟨by omega, this.2⟩
theorem classF_nil (f : Nat) (acc : List (Nat × Nat)) : classF f [] acc = none := by
  cases f with
  | zero => rfl
  | succ f => rw [classF]; rfl
/-- of one sign only the bracket ends a class -/
theorem classF_one {f : Nat} {y : Nat} {acc : List (Nat × Nat)} {q : List (Nat × Nat) × List Nat} (h : classF f [y] acc = some q) : y = 93 := by
  cases f with
  | zero => cases h
  | succ f =>
    rw [classF, nextS] at h
    by_cases h92 : y = 92
    · rw [if_pos h92] at h; cases h
    · rw [if_neg h92] at h
      dsimp only at h
      by_cases h93 : y = 93
      · exact h93
      · rw [if_neg (fun e => h93 e.1)] at h
        have : rangeS [] = none := rfl
        rw [this] at h
        dsimp only at h
        rw [classF_nil] at h
        cases h
theorem classF_app (x : List Nat) : ∀ (f : Nat) (l : List Nat) (acc : List (Nat × Nat)) (sp : List (Nat × Nat)) (r : List Nat), classF f l acc = some (sp, r) → ∀ g, f ≤ g → classF g (l ++ x) acc = some (sp, r ++ x)
  | 0, _, _, _, _, h, _, _ => by cases h
  | f + 1, l, acc, sp, r, h, 0, hg => by omega
  | f + 1, l, acc, sp, r, h, g + 1, hg => by
    rw [classF] at h ⊢
    cases hn : nextS l with
    | none => rw [hn] at h; cases h
    | some y =>
      obtain ⟨c, plain, t⟩ := y
      rw [next_app x hn]
      rw [hn] at h
      dsimp only at h ⊢
      by_cases hc : c = 93 ∧ plain = false
      · rw [if_pos hc] at h ⊢
        by_cases ha : acc = []
        · rw [if_pos ha] at h; cases h
        · rw [if_neg ha] at h ⊢; cases h; rfl
      · rw [if_neg hc] at h ⊢
        cases hr : rangeS t with
        | some r' =>
          rw [range_app x hr]
          rw [hr] at h
          dsimp only at h ⊢
          cases hm : nextS r' with
          | none => rw [hm] at h; cases h
          | some w =>
            obtain ⟨hh, b2, r2⟩ := w
            rw [next_app x hm]
            rw [hm] at h
            dsimp only at h ⊢
            by_cases hlt : hh < c
            · rw [if_pos hlt] at h; cases h
            · rw [if_neg hlt] at h ⊢
              exact classF_app x f _ _ _ _ h g (by omega)
        | none =>
          rw [hr] at h
          dsimp only at h
          have h2 := classF_app x f _ _ _ _ h g (by omega)
          have hr2 : rangeS (t ++ x) = none := by
            match t, h, hr with
            | [], h, _ => rw [classF_nil] at h; cases h
            | [y], h, _ =>
              have := classF_one h
              subst this
              cases x with
              | nil => rfl
              | cons z x => rw [List.cons_append, List.nil_append, rangeS, if_neg (by omega)]
            | y :: d :: t, h, hr =>
              rw [rangeS] at hr
              rw [List.cons_append, List.cons_append, rangeS]
              split at hr
              · cases hr
              · rename_i h9; rw [if_neg h9]
          rw [hr2]
          exact h2
def classS (l : List Nat) : Option (Pt × List Nat) :=
  if l.head? = some 33 then (classF (l.tail.length + 1) l.tail []).map fun p => ((false, true, p.1), p.2) else (classF (l.length + 1) l []).map fun p => ((false, false, p.1), p.2)
def one (c : Nat) : Pt := (false, false, [(c, c)])
/-- one piece of a pattern, behind its first sign -/
def pieceS (c : Nat) (plain : Bool) (r : List Nat) : Option (Pt × List Nat) :=
  if plain = true then some (one c, r) else if c = 42 then some ((true, false, []), r) else if c = 63 then some ((false, true, []), r) else if c = 91 then classS r else some (one c, r)
def partsF : Nat → List Nat → Option (List Pt)
  | _, [] => some []
  | 0, _ :: _ => none
  | f + 1, x :: l =>
    match nextS (x :: l) with
    | none => none
    | some (c, plain, r) =>
      match pieceS c plain r with
      | none => none
      | some (p, r') => (partsF f r').map (p :: ·)
def partsS (l : List Nat) : Option (List Pt) := partsF l.length l
theorem classS_less {l r : List Nat} {p : Pt} (h : classS l = some (p, r)) : r.length < l.length := by
  unfold classS at h
  split at h
  · cases hc : classF (l.tail.length + 1) l.tail [] with
    | none => rw [hc] at h; cases h
    | some y =>
      rw [hc] at h
      have := (classF_less _ _ _ y.1 y.2 hc).1
      cases h
      rw [List.length_tail] at this
      omega
  · cases hc : classF (l.length + 1) l [] with
    | none => rw [hc] at h; cases h
    | some y =>
      rw [hc] at h
      have := (classF_less _ _ _ y.1 y.2 hc).1
      cases h
      exact this
theorem classS_app {l r : List Nat} {p : Pt} (x : List Nat) (h : classS l = some (p, r)) : classS (l ++ x) = some (p, r ++ x) := by
  have hl := classS_less h
  unfold classS at h ⊢
  cases l with
  | nil => simp at hl
  | cons a l =>
    have e : (a :: l ++ x).head? = (a :: l).head? := rfl
    have e2 : (a :: l ++ x).tail = (a :: l).tail ++ x := rfl
    rw [e, e2]
    split at h
    · rename_i h1
      rw [if_pos h1]
      cases hc : classF ((a :: l).tail.length + 1) (a :: l).tail [] with
      | none => rw [hc] at h; cases h
      | some y =>
        rw [hc] at h
        cases h
        rw [classF_app x _ _ _ _ _ hc _ (by simp)]
        rfl
    · rename_i h1
      rw [if_neg h1]
      cases hc : classF ((a :: l).length + 1) (a :: l) [] with
      | none => rw [hc] at h; cases h
      | some y =>
        rw [hc] at h
        cases h
        rw [classF_app x _ _ _ _ _ hc _ (by simp)]
        rfl
theorem pieceS_app {c : Nat} {b : Bool} {r r' : List Nat} {p : Pt} (x : List Nat) (h : pieceS c b r = some (p, r')) : pieceS c b (r ++ x) = some (p, r' ++ x) := by
  unfold pieceS at h ⊢
  split at h
  · rename_i h1; rw [if_pos h1]; cases h; rfl
  · rename_i h1
    rw [if_neg h1]
    split at h
    · rename_i h2; rw [if_pos h2]; cases h; rfl
    · rename_i h2
      rw [if_neg h2]
      split at h
      · rename_i h3; rw [if_pos h3]; cases h; rfl
      · rename_i h3
        rw [if_neg h3]
        split at h
        · rename_i h4; rw [if_pos h4]; exact classS_app x h
        · rename_i h4; rw [if_neg h4]; cases h; rfl
theorem pieceS_less {c : Nat} {b : Bool} {r r' : List Nat} {p : Pt} (h : pieceS c b r = some (p, r')) : r'.length ≤ r.length := by
  unfold pieceS at h
  split at h
  · cases h; exact Nat.le_refl _
  · split at h
    · cases h; exact Nat.le_refl _
    · split at h
      · cases h; exact Nat.le_refl _
      · split at h
        · exact Nat.le_of_lt (classS_less h)
        · cases h; exact Nat.le_refl _
theorem partsF_app (x : List Nat) {qs : List Pt} : ∀ (f : Nat) (l : List Nat) (ps : List Pt), partsF f l = some ps → (∀ g, x.length ≤ g → partsF g x = some qs) → ∀ g, f + x.length ≤ g → partsF g (l ++ x) = some (ps ++ qs)
  | f, [], ps, h, hx, g, hg => by
    have : ps = [] := by cases f <;> (cases h; rfl)
    subst this
    exact hx g (by omega)
  | 0, _ :: _, _, h, _, _, _ => by cases h
  | f + 1, y :: l, ps, h, hx, 0, hg => by omega
  | f + 1, y :: l, ps, h, hx, g + 1, hg => by
    rw [partsF] at h
    rw [List.cons_append, partsF, ← List.cons_append]
    cases hn : nextS (y :: l) with
    | none => rw [hn] at h; cases h
    | some w =>
      obtain ⟨c, b, r⟩ := w
      rw [next_app x hn]
      rw [hn] at h
      dsimp only at h ⊢
      cases hp : pieceS c b r with
      | none => rw [hp] at h; cases h
      | some w =>
        obtain ⟨p, r'⟩ := w
        rw [pieceS_app x hp]
        rw [hp] at h
        dsimp only at h ⊢
        cases hr : partsF f r' with
        | none => rw [hr] at h; cases h
        | some qs' =>
          rw [hr] at h
          cases h
          rw [partsF_app x f r' qs' hr hx g (by omega)]
          rfl
theorem partsF_fuel : ∀ (f : Nat) (l : List Nat) (ps : List Pt), partsF f l = some ps → ∀ g, f ≤ g → partsF g l = some ps := fun f l ps h g hg => by
  have := partsF_app [] (qs := []) f l ps h (fun g _ => by cases g <;> rfl) g (by simpa using hg)
  rwa [List.append_nil, List.append_nil] at this
theorem partsS_app {l x : List Nat} {ps qs : List Pt} (h : partsS l = some ps) (hx : partsS x = some qs) : partsS (l ++ x) = some (ps ++ qs) := by
  unfold partsS at h hx ⊢
  exact partsF_app x l.length l ps h (fun g hg => partsF_fuel _ _ _ hx g hg) _ (by simp)
/-- a quoted text is its signs, one by one -/
theorem parts_quote : ∀ cs : List Nat, partsS (quoteN cs) = some (cs.map one)
  | [] => rfl
  | c :: cs => by
    have e : quoteN (c :: cs) = (if isSpN c then [92, c] else [c]) ++ quoteN cs := by unfold quoteN; rw [List.flatMap_cons]
    have ih := parts_quote cs
    rw [e]
    by_cases hs : isSpN c = true
    · rw [if_pos hs]
      have h1 : partsS [92, c] = some [one c] := by
        unfold partsS
        have hn : nextS [92, c] = some (c, true, []) := rfl
        have hp : pieceS c true [] = some (one c, []) := rfl
        rw [show [92, c].length = 1 + 1 from rfl, partsF, hn]
        dsimp only
        rw [hp]
        rfl
      exact partsS_app h1 ih
    · rw [if_neg hs]
      have hn : ¬ (c = 42 ∨ c = 63 ∨ c = 91 ∨ c = 92) := by
        intro h
        apply hs
        unfold isSpN
        rcases h with rfl | rfl | rfl | rfl <;> rfl
      have h1 : partsS [c] = some [one c] := by
        unfold partsS
        have hn1 : nextS [c] = some (c, false, []) := by rw [nextS, if_neg (by omega)]
        have hp : pieceS c false [] = some (one c, []) := by
          unfold pieceS
          rw [if_neg (by decide), if_neg (by omega), if_neg (by omega), if_neg (by omega)]
        rw [show [c].length = 0 + 1 from rfl, partsF, hn1]
        dsimp only
        rw [hp]
        rfl
      exact partsS_app h1 ih
/-! ### what is taken -/
def takes (p : Pt) (c : Nat) : Bool := if p.2.2.any (fun s => decide (s.1 ≤ c ∧ c ≤ s.2)) then !p.2.1 else p.2.1
inductive M : List Pt → List Nat → Prop
  | nil : M [] []
  | skip {p : Pt} {ps : List Pt} {t : List Nat} : p.1 = true → M ps t → M (p :: ps) t
  | more {p : Pt} {ps : List Pt} {c : Nat} {t : List Nat} : p.1 = true → M (p :: ps) t → M (p :: ps) (c :: t)
  | one {p : Pt} {ps : List Pt} {c : Nat} {t : List Nat} : p.1 = false → takes p c = true → M ps t → M (p :: ps) (c :: t)
theorem m_nil {t : List Nat} : M [] t ↔ t = [] := ⟨fun h => by cases h; rfl, fun h => by rw [h]; exact .nil⟩
theorem m_run {p : Pt} {ps : List Pt} (h : p.1 = true) : ∀ {t : List Nat}, M (p :: ps) t ↔ ∃ j, j ≤ t.length ∧ M ps (t.drop j) := fun {t} => by
  constructor
  · intro hm
    generalize hl : p :: ps = l at hm
    induction hm with
    | nil => cases hl
    | @skip q qs t hq hm ih => cases hl; exact ⟨0, Nat.zero_le _, hm⟩
    | @more q qs c t hq hm ih =>
      cases hl
      obtain ⟨j, hj, hk⟩ := ih rfl
      exact ⟨j + 1, by simpa using hj, hk⟩
    | @one q qs c t hq _ hm ih => cases hl; rw [h] at hq; cases hq
  · rintro ⟨j, hj, hm⟩
    induction j generalizing t with
    | zero => exact .skip h hm
    | succ j ih =>
      cases t with
      | nil => simp at hj
      | cons c t => exact .more h (ih (by simpa using hj) (by simpa using hm))
theorem m_one {p : Pt} {ps : List Pt} {c : Nat} {t : List Nat} (h : p.1 = false) : M (p :: ps) (c :: t) ↔ takes p c = true ∧ M ps t :=
  ⟨fun hm => by
    cases hm with
    | skip hq _ => rw [h] at hq; cases hq
    | more hq _ => rw [h] at hq; cases hq
    | one _ h1 h2 => exact ⟨h1, h2⟩, fun hm => .one h hm.1 hm.2⟩
theorem m_end {p : Pt} {ps : List Pt} (h : p.1 = false) : ¬ M (p :: ps) [] := fun hm => by
  cases hm with
  | skip hq _ => rw [h] at hq; cases hq
theorem m_empty : ∀ ps : List Pt, M ps [] ↔ ∀ p ∈ ps, p.1 = true
  | [] => ⟨fun _ p hp => absurd hp List.not_mem_nil, fun _ => .nil⟩
  | p :: ps => by
    constructor
    · intro hm
      cases hm with
      | skip hq hm => intro q hq2; rcases List.mem_cons.1 hq2 with rfl | hq2; exact hq; exact (m_empty ps).1 hm q hq2
    · intro h
      exact .skip (h p List.mem_cons_self) ((m_empty ps).2 fun q hq => h q (List.mem_cons_of_mem _ hq))
/-- singles take as many signs as they are -/
theorem m_singles : ∀ (a b : List Pt) (t : List Nat), (∀ p ∈ a, p.1 = false) → M (a ++ b) t → a.length ≤ t.length ∧ M b (t.drop a.length)
  | [], b, t, _, h => ⟨Nat.zero_le _, h⟩
  | p :: a, b, [], ha, h => absurd h (m_end (ha p List.mem_cons_self))
  | p :: a, b, c :: t, ha, h => by
    obtain ⟨_, h2⟩ := (m_one (ha p List.mem_cons_self)).1 h
    obtain ⟨h3, h4⟩ := m_singles a b t (fun q hq => ha q (List.mem_cons_of_mem _ hq)) h2
    exact ⟨by simpa using h3, by simpa using h4⟩
theorem m_exact : ∀ (cs t : List Nat), M (cs.map one) t ↔ t = cs
  | [], t => m_nil
  | c :: cs, [] => ⟨fun h => absurd h (m_end rfl), fun h => by cases h⟩
  | c :: cs, d :: t => by
    rw [List.map_cons, m_one rfl, m_exact cs t]
    have : takes (one c) d = decide (d = c) := by
      unfold takes one
      simp only [List.any_cons, List.any_nil, Bool.or_false]
      by_cases h : d = c
      · subst h; simp
      · have : ¬ (c ≤ d ∧ d ≤ c) := by omega
        rw [decide_eq_false this, decide_eq_false h]
        rfl
    rw [this, decide_eq_true_eq]
    constructor
    · rintro ⟨rfl, rfl⟩; rfl
    · intro h; cases h; exact ⟨rfl, rfl⟩
/-- a star behind a pattern -/
theorem m_star {p : Pt} (hp : p.1 = true) : ∀ (ps : List Pt) (t : List Nat), M (ps ++ [p]) t ↔ ∃ j, j ≤ t.length ∧ M ps (t.take j) := fun ps => by
  induction ps with
  | nil =>
    intro t
    rw [List.nil_append, m_run hp]
    constructor
    · rintro ⟨j, _, _⟩
      exact ⟨0, Nat.zero_le _, .nil⟩
    · rintro _
      exact ⟨t.length, Nat.le_refl _, by rw [List.drop_length]; exact .nil⟩
  | cons q ps ih =>
    intro t
    cases hq : q.1 with
    | true =>
      rw [List.cons_append, m_run hq]
      constructor
      · rintro ⟨i, hi, hm⟩
        obtain ⟨j, hj, hk⟩ := (ih _).1 hm
        rw [List.length_drop] at hj
        refine ⟨i + j, by omega, (m_run hq).2 ⟨i, by rw [List.length_take]; omega, ?_⟩⟩
        rw [List.drop_take, Nat.add_sub_cancel_left]
        exact hk
      · rintro ⟨j, hj, hm⟩
        obtain ⟨i, hi, hk⟩ := (m_run hq).1 hm
        rw [List.length_take] at hi
        refine ⟨i, by omega, (ih _).2 ⟨j - i, by rw [List.length_drop]; omega, ?_⟩⟩
        rw [List.drop_take] at hk
        exact hk
    | false =>
      rw [List.cons_append]
      cases t with
      | nil =>
        constructor
        · intro h; exact absurd h (m_end hq)
        · rintro ⟨j, _, hm⟩
          rw [List.take_nil] at hm
          exact absurd hm (m_end hq)
      | cons c t =>
        rw [m_one hq]
        constructor
        · rintro ⟨h1, h2⟩
          obtain ⟨j, hj, hk⟩ := (ih t).1 h2
          exact ⟨j + 1, by simpa using hj, .one hq h1 hk⟩
        · rintro ⟨j, hj, hm⟩
          cases j with
          | zero => exact absurd hm (m_end hq)
          | succ j =>
            rw [List.take_succ_cons, m_one hq] at hm
            exact ⟨hm.1, (ih t).2 ⟨j, by simpa using hj, hm.2⟩⟩
theorem m_two {p : Pt} (hp : p.1 = true) (ps : List Pt) (t : List Nat) : M (ps ++ [p, p]) t ↔ M (ps ++ [p]) t := by
  rw [show ps ++ [p, p] = (ps ++ [p]) ++ [p] by simp, m_star hp]
  constructor
  · rintro ⟨j, hj, hm⟩
    obtain ⟨i, hi, hk⟩ := (m_star hp ps _).1 hm
    rw [List.length_take] at hi
    rw [List.take_take] at hk
    exact (m_star hp ps t).2 ⟨min i j, by omega, hk⟩
  · intro hm
    exact ⟨t.length, Nat.le_refl _, by rw [List.take_length]; exact hm⟩
end Go.Proofs.YtcbpeampjhegcaaDoor.glob
