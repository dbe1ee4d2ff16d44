/-
  glob: signs of texts that are put together, quoted, cut; what a pattern takes (no program).
-/
import Derived.Test.YtcbpeampjhegcaaDoorGlobSig
namespace Go.Proofs.YtcbpeampjhegcaaDoor.glob
open Go.RowKit kit sl
set_option linter.unusedVariables false
/-- the first sign, and how many bytes say it -/
def sgn (s : List UInt8) : Nat × Nat := if decL s = (65533, 1) then (1114112 + (s.headD 0).toNat, 1) else decL s
def sigsF : Nat → List UInt8 → List Nat
  | 0, _ => []
  | _ + 1, [] => []
  | f + 1, b :: t => (sgn (b :: t)).1 :: sigsF f ((b :: t).drop (sgn (b :: t)).2)
def sigs (s : List UInt8) : List Nat := sigsF s.length s
inductive Sig : List UInt8 → List Nat → Prop
  | nil : Sig [] []
  | code {a r : List UInt8} {v : Nat} {cs : List Nat} : okV v → nn a = encN v → Sig r cs → Sig (a ++ r) (v :: cs)
  | stray {b : UInt8} {t : List UInt8} {cs : List Nat} : (∀ v r, ¬ Begins (b :: t) v r) → Sig t cs → Sig (b :: t) ((1114112 + b.toNat) :: cs)
theorem nn_len {a : List UInt8} {v : Nat} (h : nn a = encN v) : a.length = (encN v).length := by rw [← h]; simp [nn]
theorem sgn_code {b : UInt8} {t r : List UInt8} {v : Nat} (h : Begins (b :: t) v r) : sgn (b :: t) = (v, (encN v).length) ∧ (b :: t).drop (encN v).length = r := by
  have hd := begins_dec h
  obtain ⟨hv, a, ha, he⟩ := h
  refine ⟨?_, by rw [ha, ← nn_len he, List.drop_left]⟩
  unfold sgn
  rw [hd, if_neg]
  intro e
  obtain ⟨h3, h4⟩ := Prod.mk.inj e
  subst h3
  exact absurd h4 (by decide)
theorem sgn_stray {b : UInt8} {t : List UInt8} (h : ∀ v r, ¬ Begins (b :: t) v r) : sgn (b :: t) = (1114112 + b.toNat, 1) := by
  rcases dec_cases b t with ⟨v, r, hb, _⟩ | ⟨hd, _⟩
  · exact absurd hb (h v r)
  · unfold sgn
    rw [if_pos hd]
    rfl
theorem sig_uniq {s : List UInt8} {cs : List Nat} (h : Sig s cs) : ∀ f, s.length ≤ f → sigsF f s = cs := by
  induction h with
  | nil => intro f _; cases f <;> rfl
  | @code a r v cs hv ha _ ih =>
    intro f hf
    have h1 := enc_long v
    have h2 := nn_len ha
    match f, a, h2, hf, ha with
    | 0, b :: a, h2, hf, _ => simp at hf
    | _, [], h2, _, _ => simp at h2; omega
    | f + 1, b :: a, h2, hf, ha =>
      have hb : Begins (b :: (a ++ r)) v r := ⟨hv, b :: a, rfl, ha⟩
      obtain ⟨e1, e2⟩ := sgn_code hb
      rw [List.cons_append, sigsF, e1, e2, ih f (by simp at hf h2; omega)]
  | @stray b t cs hn _ ih =>
    intro f hf
    match f, hf with
    | 0, hf => simp at hf
    | f + 1, hf =>
      rw [sigsF, sgn_stray hn]
      show _ :: sigsF f t = _
      rw [ih f (by simp at hf; omega)]
theorem sig_ex : ∀ (n : Nat) (s : List UInt8), s.length ≤ n → ∃ cs, Sig s cs
  | _, [], _ => ⟨[], .nil⟩
  | 0, b :: t, h => by simp at h
  | n + 1, b :: t, h => by
    rcases dec_cases b t with ⟨v, r, hb, _⟩ | ⟨_, hn⟩
    · obtain ⟨hv, a, ha, he⟩ := hb
      have h1 := enc_long v
      have h2 := nn_len he
      have hl : (b :: t).length = a.length + r.length := by rw [ha, List.length_append]
      obtain ⟨cs, hc⟩ := sig_ex n r (by omega)
      exact ⟨v :: cs, by rw [ha]; exact .code hv he hc⟩
    · obtain ⟨cs, hc⟩ := sig_ex n t (by simp at h; omega)
      exact ⟨_, .stray hn hc⟩
theorem sig_sigs (s : List UInt8) : Sig s (sigs s) := by
  obtain ⟨cs, h⟩ := sig_ex s.length s (Nat.le_refl _)
  have := sig_uniq h s.length (Nat.le_refl _)
  unfold sigs
  rw [this]
  exact h
theorem sig_eq {s : List UInt8} {cs : List Nat} (h : Sig s cs) : sigs s = cs := sig_uniq h s.length (Nat.le_refl _)
/-- a text from its signs -/
def encS (c : Nat) : List UInt8 := if c < 1114112 then (encN c).map UInt8.ofNat else [UInt8.ofNat (c - 1114112)]
theorem ofNat_toNat (l : List UInt8) : (nn l).map UInt8.ofNat = l := by
  unfold nn
  rw [List.map_map]
  conv => rhs; rw [← List.map_id l]
  apply List.map_congr_left
  intro x _
  exact UInt8.ofNat_toNat
theorem sig_text {s : List UInt8} {cs : List Nat} (h : Sig s cs) : s = cs.flatMap encS := by
  induction h with
  | nil => rfl
  | @code a r v cs hv ha _ ih =>
    rw [List.flatMap_cons, ← ih]
    have : encS v = a := by
      unfold encS
      rw [if_pos (by unfold okV at hv; omega), ← ha, ofNat_toNat]
    rw [this]
  | @stray b t cs hn _ ih =>
    rw [List.flatMap_cons, ← ih]
    have : encS (1114112 + b.toNat) = [b] := by
      unfold encS
      rw [if_neg (by omega), Nat.add_sub_cancel_left, UInt8.ofNat_toNat]
    rw [this]
    rfl
theorem sigs_inj {s t : List UInt8} (h : sigs s = sigs t) : s = t := by rw [sig_text (sig_sigs s), sig_text (sig_sigs t), h]
theorem sig_bd {s : List UInt8} {cs : List Nat} (h : Sig s cs) : cs.length ≤ s.length ∧ ∀ c ∈ cs, c < 1114368 := by
  induction h with
  | nil => exact ⟨Nat.le_refl _, fun c h => absurd h List.not_mem_nil⟩
  | @code a r v cs hv ha _ ih =>
    have h1 := enc_long v
    have h2 := nn_len ha
    refine ⟨by rw [List.length_cons, List.length_append]; omega, fun c hc => ?_⟩
    rcases List.mem_cons.1 hc with rfl | hc
    · unfold okV at hv; omega
    · exact ih.2 c hc
  | @stray b t cs hn _ ih =>
    refine ⟨by rw [List.length_cons, List.length_cons]; omega, fun c hc => ?_⟩
    rcases List.mem_cons.1 hc with rfl | hc
    · have := b.toNat_lt; omega
    · exact ih.2 c hc
/-! ### bytes of what is below 128 -/
theorem enc_low {v : Nat} (h : v < 128) : encN v = [v] := by unfold encN; rw [if_pos h]
theorem enc_high {v : Nat} (h : ¬ v < 128) : ∀ x ∈ encN v, 128 ≤ x := by
  unfold encN
  rw [if_neg h]
  repeat' split
  all_goals (intro x hx; simp at hx; omega)
theorem begins_low {b : UInt8} (t : List UInt8) (h : b.toNat < 128) : Begins (b :: t) b.toNat t := ⟨.inl (by omega), [b], rfl, by rw [enc_low h]; rfl⟩
theorem stray_high {b : UInt8} {t : List UInt8} (h : ∀ v r, ¬ Begins (b :: t) v r) : 128 ≤ b.toNat := by
  rcases Nat.lt_or_ge b.toNat 128 with h1 | h1
  · exact absurd (begins_low t h1) (h _ _)
  · exact h1
theorem code_high {a : List UInt8} {v : Nat} (ha : nn a = encN v) (h : ¬ v < 128) : ∀ x ∈ a, 128 ≤ x.toNat := fun x hx => enc_high h x.toNat (by rw [← ha]; exact List.mem_map_of_mem hx)
/-- a sign ends ahead of a byte below 128 -/
theorem begins_app {s r x : List UInt8} {v : Nat} {c : UInt8} (hs : s ≠ []) (hc : c.toNat < 128) (h : Begins (s ++ c :: x) v r) (h128 : ¬ v < 128) : ∃ r', Begins s v r' := by
  obtain ⟨hv, a, ha, he⟩ := h
  have hh := code_high he h128
  rcases List.append_eq_append_iff.1 ha with ⟨l, h1, h2⟩ | ⟨l, h1, h2⟩
  · cases l with
    | nil => exact ⟨[], hv, a, by rw [h1]; simp, he⟩
    | cons y l =>
      have : y = c := by
        have h3 := congrArg List.head? h2
        simp at h3
        exact h3.symm
      have h4 := hh y (by rw [h1]; simp)
      rw [this] at h4
      omega
  · exact ⟨l, hv, a, h1, he⟩
theorem sig_app {s : List UInt8} {cs ds : List Nat} {c : UInt8} {x : List UInt8} (hc : c.toNat < 128) (hd : Sig (c :: x) ds) (h : Sig s cs) : Sig (s ++ c :: x) (cs ++ ds) := by
  induction h with
  | nil => exact hd
  | @code a r v cs hv ha _ ih =>
    rw [List.append_assoc]
    exact .code hv ha ih
  | @stray b t cs hn _ ih =>
    refine .stray (fun v r hb => ?_) ih
    have h128 := stray_high hn
    have hv : ¬ v < 128 := by
      intro hv
      obtain ⟨_, a, ha, he⟩ := hb
      rw [enc_low hv] at he
      cases a with
      | nil => cases he
      | cons y a =>
        have h1 : y = b := (List.cons.inj ha).1.symm
        have h2 : y.toNat = v := (List.cons.inj he).1
        rw [h1] at h2
        omega
    obtain ⟨r', hr⟩ := begins_app (s := b :: t) (by simp) hc hb hv
    exact hn v r' hr
theorem sig_low {c : UInt8} {x : List UInt8} {ds : List Nat} (hc : c.toNat < 128) (h : Sig x ds) : Sig (c :: x) (c.toNat :: ds) :=
  .code (a := [c]) (.inl (by omega)) (by rw [enc_low hc]; rfl) h
/-! ### quoting -/
def isSp (b : UInt8) : Bool := b == 42 || b == 63 || b == 91 || b == 92
def quote (s : List UInt8) : List UInt8 := s.flatMap fun b => if isSp b then [92, b] else [b]
def isSpN (c : Nat) : Bool := c == 42 || c == 63 || c == 91 || c == 92
def quoteN (cs : List Nat) : List Nat := cs.flatMap fun c => if isSpN c then [92, c] else [c]
theorem sp_low {b : UInt8} (h : isSp b = true) : b.toNat < 128 := by
  unfold isSp at h
  simp at h
  rcases h with ((rfl | rfl) | rfl) | rfl <;> decide
theorem sp_same (b : UInt8) : isSpN b.toNat = isSp b := by
  unfold isSpN isSp
  have : ∀ c : UInt8, (b.toNat == c.toNat) = (b == c) := fun c => by
    by_cases h : b = c
    · subst h; simp
    · have : b.toNat ≠ c.toNat := fun e => h (UInt8.toNat_inj.1 e)
      rw [beq_eq_false_iff_ne.2 h, beq_eq_false_iff_ne.2 this]
  rw [← this 42, ← this 63, ← this 91, ← this 92]
  rfl
theorem quote_high : ∀ (a : List UInt8) (t : List UInt8), (∀ x ∈ a, 128 ≤ x.toNat) → quote (a ++ t) = a ++ quote t
  | [], _, _ => rfl
  | x :: a, t, h => by
    have h1 := h x List.mem_cons_self
    have h2 : isSp x = false := by
      cases e : isSp x with
      | false => rfl
      | true => exact absurd (sp_low e) (by omega)
    have h3 := quote_high a t fun y hy => h y (List.mem_cons_of_mem _ hy)
    unfold quote at h3 ⊢
    rw [List.cons_append, List.flatMap_cons, h2, h3]
    rfl
theorem quote_cut : ∀ (a r t : List UInt8), (∀ x ∈ a, 128 ≤ x.toNat) → quote t = a ++ r → ∃ r', t = a ++ r'
  | [], _, t, _, _ => ⟨t, rfl⟩
  | x :: a, r, [], _, e => by cases e
  | x :: a, r, y :: t, h, e => by
    have h1 := h x List.mem_cons_self
    have e0 : quote (y :: t) = (if isSp y then [92, y] else [y]) ++ quote t := by unfold quote; rw [List.flatMap_cons]
    rw [e0] at e
    by_cases hy : isSp y = true
    · rw [if_pos hy] at e
      have : (92 : UInt8) = x := (List.cons.inj e).1
      rw [← this] at h1
      exact absurd h1 (by decide)
    · rw [if_neg hy] at e
      obtain ⟨e1, e2⟩ := List.cons.inj e
      obtain ⟨r', hr⟩ := quote_cut a r t (fun z hz => h z (List.mem_cons_of_mem _ hz)) e2
      exact ⟨r', by rw [← e1, hr]; rfl⟩
theorem sig_quote {s : List UInt8} {cs : List Nat} (h : Sig s cs) : Sig (quote s) (quoteN cs) := by
  induction h with
  | nil => exact .nil
  | @code a r v cs hv ha _ ih =>
    by_cases hl : v < 128
    · rw [enc_low hl] at ha
      match a, ha with
      | [b], ha =>
        have hb : b.toNat = v := (List.cons.inj ha).1
        have e1 : quote ([b] ++ r) = (if isSp b then [92, b] else [b]) ++ quote r := by unfold quote; rw [List.singleton_append, List.flatMap_cons]
        have e2 : quoteN (v :: cs) = (if isSpN v then [92, v] else [v]) ++ quoteN cs := by unfold quoteN; rw [List.flatMap_cons]
        rw [e1, e2, ← hb, sp_same]
        by_cases hs : isSp b = true
        · rw [if_pos hs, if_pos hs]
          exact sig_low (c := 92) (by decide) (sig_low (by omega) ih)
        · rw [if_neg hs, if_neg hs]
          exact sig_low (by omega) ih
    · have hh := code_high ha hl
      have e2 : quoteN (v :: cs) = v :: quoteN cs := by
        unfold quoteN
        rw [List.flatMap_cons]
        have : isSpN v = false := by unfold isSpN; simp; omega
        rw [this]
        rfl
      rw [quote_high a r hh, e2]
      exact .code hv ha ih
  | @stray b t cs hn _ ih =>
    have h128 := stray_high hn
    have e1 := quote_high [b] t (fun x hx => by rw [List.mem_singleton.1 hx]; exact h128)
    have e2 : quoteN ((1114112 + b.toNat) :: cs) = (1114112 + b.toNat) :: quoteN cs := by
      unfold quoteN
      rw [List.flatMap_cons]
      have : isSpN (1114112 + b.toNat) = false := by unfold isSpN; simp; omega
      rw [this]
      rfl
    rw [show b :: t = [b] ++ t from rfl, e1, e2]
    refine .stray (fun v r hb => ?_) ih
    obtain ⟨hv, a, ha, he⟩ := hb
    have hvl : ¬ v < 128 := by
      intro hv
      rw [enc_low hv] at he
      cases a with
      | nil => cases he
      | cons y a =>
        have h1 : b = y := (List.cons.inj ha).1
        have h2 : y.toNat = v := (List.cons.inj he).1
        rw [← h1] at h2
        omega
    have hh := code_high he hvl
    cases a with
    | nil =>
      have := enc_long v
      rw [← he] at this
      simp [nn] at this
    | cons y a =>
      obtain ⟨h1, h2⟩ := List.cons.inj ha
      obtain ⟨r', hr⟩ := quote_cut a r t (fun z hz => hh z (List.mem_cons_of_mem _ hz)) h2
      exact hn v r' ⟨hv, y :: a, by rw [h1, hr]; rfl, he⟩
/-! ### a text cut between two signs -/
def offs (cs : List Nat) (j : Nat) : Nat := ((cs.take j).flatMap encS).length
theorem encS_code {a : List UInt8} {v : Nat} (hv : okV v) (ha : nn a = encN v) : encS v = a := by
  unfold encS
  rw [if_pos (by unfold okV at hv; omega), ← ha, ofNat_toNat]
theorem encS_stray (b : UInt8) : encS (1114112 + b.toNat) = [b] := by
  unfold encS
  rw [if_neg (by omega), Nat.add_sub_cancel_left, UInt8.ofNat_toNat]
theorem sig_take {s : List UInt8} {cs : List Nat} (h : Sig s cs) : ∀ j, Sig (s.take (offs cs j)) (cs.take j) := by
  induction h with
  | nil => intro j; rw [List.take_nil, List.take_nil]; exact .nil
  | @code a r v cs hv ha _ ih =>
    intro j
    cases j with
    | zero => rw [show offs (v :: cs) 0 = 0 from rfl, List.take_zero, List.take_zero]; exact .nil
    | succ j =>
      have e : offs (v :: cs) (j + 1) = a.length + offs cs j := by
        unfold offs
        rw [List.take_succ_cons, List.flatMap_cons, List.length_append, encS_code hv ha]
      rw [e, List.take_length_add_append, List.take_succ_cons]
      exact .code hv ha (ih j)
  | @stray b t cs hn _ ih =>
    intro j
    cases j with
    | zero => rw [show offs ((1114112 + b.toNat) :: cs) 0 = 0 from rfl, List.take_zero, List.take_zero]; exact .nil
    | succ j =>
      have e : offs ((1114112 + b.toNat) :: cs) (j + 1) = offs cs j + 1 := by
        unfold offs
        rw [List.take_succ_cons, List.flatMap_cons, List.length_append, encS_stray, List.length_singleton, Nat.add_comm]
      rw [e, List.take_succ_cons, List.take_succ_cons]
      refine .stray (fun v r hb => ?_) (ih j)
      obtain ⟨hv, a, ha, he⟩ := hb
      have h1 : b :: t = a ++ (r ++ t.drop (offs cs j)) := by
        rw [← List.append_assoc, ← ha, List.cons_append, List.take_append_drop]
      exact hn v _ ⟨hv, a, h1, he⟩
end Go.Proofs.YtcbpeampjhegcaaDoor.glob
