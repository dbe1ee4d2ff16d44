/-
  ops: which writes wait on the way of lean ops, and on the way of all: with no program in sight.
-/
import Derived.Test.YtbgmfkhfbjgekaaStays
namespace Go.Proofs.Ytbgmfkhfbjgekaa.ops
open Go.RowKit kit sl Go.Proofs.Ytbgmfkhfbjgekaa.sleq Go.Proofs.Ytbgmfkhfbjgekaa.disk
set_option linter.unusedVariables false
theorem stays_at {l : List Op} {k : Nat} {o : Op} (h : l[k]? = some o) : staysB l k = decide (o.1 ≠ 1 ∨ (leanR (l.drop (k + 1))).2 o.2.1 = 0) := by
  unfold staysB; rw [h]
theorem stays_cons (o : Op) (l : List Op) (k : Nat) : staysB (o :: l) (k + 1) = staysB l k := by
  simp [staysB]
/-- numbers of the ops that stay, of the first k -/
def fromK (l : List Op) : Nat → List Nat
  | 0 => []
  | k + 1 => if staysB l k = true then fromK l k ++ [k] else fromK l k
/-- the ops that stay, of the first k -/
def pre (l : List Op) : Nat → List Op
  | 0 => []
  | k + 1 => if staysB l k = true then pre l k ++ (l[k]?).toList else pre l k
theorem pre_cons (o : Op) (l : List Op) (k : Nat) : pre (o :: l) (k + 1) = (if staysB (o :: l) 0 = true then [o] else []) ++ pre l k := by
  induction k with
  | zero => simp [pre]
  | succ k ih =>
    rw [pre, ih, stays_cons, pre]
    by_cases h : staysB l k = true
    · rw [if_pos h, if_pos h, List.append_assoc]
      simp
    · rw [if_neg h, if_neg h]
theorem lean_pre (l : List Op) : (leanR l).1 = pre l l.length := by
  induction l with
  | nil => rfl
  | cons o l ih =>
    have hs : staysB (o :: l) 0 = decide (o.1 ≠ 1 ∨ (leanR l).2 o.2.1 = 0) := stays_at (l := o :: l) (k := 0) rfl
    rw [List.length_cons, pre_cons, hs, ← ih]
    by_cases h1 : o.1 = 1
    · by_cases h2 : (leanR l).2 o.2.1 = 0
      · simp [leanR, h1, h2]
      · simp [leanR, h1, h2]
    · simp [leanR, h1]
theorem pre_len {l : List Op} {k : Nat} (hk : k ≤ l.length) : (pre l k).length = (fromK l k).length := by
  induction k with
  | zero => rfl
  | succ k ih =>
    obtain ⟨o, ho⟩ : ∃ o, l[k]? = some o := ⟨_, List.getElem?_eq_getElem (by omega)⟩
    have := ih (by omega)
    simp only [pre, fromK, ho]
    split
    · simp [this]
    · exact this
theorem pre_take {l : List Op} {k : Nat} : ∀ L, k ≤ L → L ≤ l.length → (pre l L).take (fromK l k).length = pre l k := by
  intro L
  induction L with
  | zero =>
    intro h _
    cases Nat.le_zero.1 h
    rfl
  | succ L ih =>
    intro h h2
    by_cases e : k = L + 1
    · subst e
      rw [List.take_of_length_le (by rw [pre_len h2]; exact Nat.le_refl _)]
    · have i1 := ih (by omega) (by omega)
      have i2 : (fromK l k).length ≤ (pre l L).length := by
        have i3 := congrArg List.length i1
        rw [List.length_take, pre_len (by omega : k ≤ l.length)] at i3
        omega
      simp only [pre]
      split
      · rw [List.take_append_of_le_length i2, i1]
      · exact i1
theorem from_lt {l : List Op} {k i : Nat} (h : i ∈ fromK l k) : i < k ∧ staysB l i = true := by
  induction k with
  | zero => cases h
  | succ k ih =>
    simp only [fromK] at h
    split at h
    · rename_i hs
      rcases List.mem_append.1 h with h | h
      · have := ih h; exact ⟨by omega, this.2⟩
      · cases List.mem_singleton.1 h; exact ⟨by omega, hs⟩
    · have := ih h; exact ⟨by omega, this.2⟩
theorem from_mem {l : List Op} {k i : Nat} (h : i < k) (hs : staysB l i = true) : i ∈ fromK l k := by
  induction k with
  | zero => omega
  | succ k ih =>
    simp only [fromK]
    by_cases e : i = k
    · subst e; rw [if_pos hs]; simp
    · have := ih (by omega)
      split
      · exact List.mem_append_left _ this
      · exact this
theorem from_at (l : List Op) : ∀ L n, n < (fromK l L).length → ∃ k0, (fromK l L)[n]? = some k0 ∧ k0 < L ∧ (fromK l (k0 + 1)).length = n + 1 := by
  intro L
  induction L with
  | zero => intro n h; simp [fromK] at h
  | succ L ih =>
    intro n h
    by_cases hs : staysB l L = true
    · have e : fromK l (L + 1) = fromK l L ++ [L] := by simp only [fromK]; rw [if_pos hs]
      by_cases hn : n < (fromK l L).length
      · obtain ⟨k0, h1, h2, h3⟩ := ih n hn
        refine ⟨k0, ?_, by omega, h3⟩
        rw [e, List.getElem?_append_left hn, h1]
      · have hn' : n = (fromK l L).length := by rw [e] at h; simp at h; omega
        refine ⟨L, ?_, by omega, ?_⟩
        · rw [e, hn']; simp
        · rw [e, hn']; simp
    · have e : fromK l (L + 1) = fromK l L := by simp only [fromK]; rw [if_neg hs]
      rw [e] at h ⊢
      obtain ⟨k0, h1, h2, h3⟩ := ih n h
      exact ⟨k0, h1, by omega, h3⟩
/-- which writes are kept on the way of all, where ks says so on the way of the lean ones; and how many of these wait -/
def waitK (ks : List Bool) (l : List Op) (w0 : List Bool) : Nat → List Bool × Nat
  | 0 => (w0, w0.length)
  | k + 1 => match l[k]? with
    | some o => if o.1 = 2 then ([], 0) else if staysB l k = true then ((waitK ks l w0 k).1 ++ [ks.getD (waitK ks l w0 k).2 false], (waitK ks l w0 k).2 + 1) else ((waitK ks l w0 k).1 ++ [false], (waitK ks l w0 k).2)
    | none => waitK ks l w0 k
theorem wait_len (ks : List Bool) (l : List Op) (w0 : List Bool) (k : Nat) : (waitK ks l w0 k).1.length ≤ w0.length + k ∧ (waitK ks l w0 k).2 ≤ w0.length + k := by
  induction k with
  | zero => simp [waitK]
  | succ k ih =>
    simp only [waitK]
    split
    · split
      · simp
      · split <;> (simp; omega)
    · omega
theorem land_snoc (K : Nat → Bool) (cs : List ByteArray) (ps : List (Int × ByteArray)) (p : Int × ByteArray) : land K 0 cs (ps ++ [p]) = if K ps.length = true then (land K 0 cs ps).set p.1.toNat p.2 else land K 0 cs ps := by
  have h := land_take K (ps := ps ++ [p]) (k := ps.length) (p := p) (by simp) 0 cs
  rwa [List.take_of_length_le (by simp), List.take_left' rfl, Nat.zero_add] at h
theorem getD_snoc_old {w : List Bool} {b : Bool} {j : Nat} (h : j < w.length) : (w ++ [b]).getD j false = w.getD j false := by
  simp [List.getD, List.getElem?_append_left h]
theorem getD_snoc_new {w : List Bool} {b : Bool} : (w ++ [b]).getD w.length false = b := by
  simp [List.getD]
theorem land_snocW (w : List Bool) (b : Bool) (cs : List ByteArray) (ps : List (Int × ByteArray)) (p : Int × ByteArray) (hw : w.length = ps.length) : land (fun i => (w ++ [b]).getD i false) 0 cs (ps ++ [p]) = if b = true then (land (fun i => w.getD i false) 0 cs ps).set p.1.toNat p.2 else land (fun i => w.getD i false) 0 cs ps := by
  rw [land_snoc, ← hw, getD_snoc_new, land_congr (K' := fun i => w.getD i false) 0 cs fun j hj => by rw [Nat.zero_add]; exact getD_snoc_old (by omega)]
theorem play_snoc {s t : St} {l : List Op} {o : Op} (h : play s l = (0, t)) (h1 : (step1 t o).1 = 0) : play s (l ++ [o]) = (0, (step1 t o).2) := by
  rw [play_app, if_neg (by rw [h]; simp), h]
  simp [play, h1]
theorem crash_inv {cs : List ByteArray} {ps : List (Int × ByteArray)} {l : List Op} (ks w0 : List Bool) (hg : disk.Good cs ps) (h : (play (cs, ps) l).1 = 0) (hw0 : w0.length = ps.length) (hwk : land (fun i => w0.getD i false) 0 cs ps = land (fun i => ks.getD i false) 0 cs ps) :
    ∀ k, k ≤ l.length → ∃ cs1 ps1 ps2, play (cs, ps) (l.take k) = (0, (cs1, ps1)) ∧ play (cs, ps) (pre l k) = (0, (cs1, ps2)) ∧ disk.Good cs1 ps1 ∧ disk.Good cs1 ps2 ∧ ps2.length ≤ ps1.length ∧ (∀ x : Nat, x < cs1.length → (leanR (l.drop k)).2 x = 0 → nowD cs1 ps1 x = nowD cs1 ps2 x) ∧ (waitK ks l w0 k).1.length = ps1.length ∧ (waitK ks l w0 k).2 = ps2.length ∧ land (fun i => (waitK ks l w0 k).1.getD i false) 0 cs1 ps1 = land (fun i => ks.getD i false) 0 cs1 ps2 := by
  intro k
  induction k with
  | zero => exact fun _ => ⟨cs, ps, ps, by simp [play], by simp [play, pre], hg, hg, Nat.le_refl _, fun _ _ _ => rfl, hw0, hw0, hwk⟩
  | succ k ih =>
    intro hk
    obtain ⟨cs1, ps1, ps2, i1, i2, g1, g2, il, is, iw, in', ij⟩ := ih (by omega)
    obtain ⟨o, ho⟩ : ∃ o, l[k]? = some o := ⟨_, List.getElem?_eq_getElem (by omega)⟩
    have hd := drop_cons ho
    have hst : staysB l k = decide (o.1 ≠ 1 ∨ (leanR (l.drop (k + 1))).2 o.2.1 = 0) := stays_at ho
    have hs0 : (step1 (cs1, ps1) o).1 = 0 := by
      by_cases hs : (step1 (cs1, ps1) o).1 = 0
      · exact hs
      · have := play_bad ho i1 hs
        rw [h] at this
        exact absurd this.symm hs
    have ht := play_take ho i1 hs0
    have hgn := step_good (s := (cs1, ps1)) g1 hs0
    rw [hd] at is
    simp only [leanR] at is
    generalize leanR (l.drop (k + 1)) = r at is hst ⊢
    simp only [waitK, ho, pre]
    generalize waitK ks l w0 k = wk at iw in' ij ⊢
    obtain ⟨w, n⟩ := wk
    dsimp only at iw in' ij ⊢
    obtain ⟨kd, at', text⟩ := o
    by_cases h1 : kd = 1
    · subst h1
      have e1 : ∀ ps : List (Int × ByteArray), step1 (cs1, ps) (1, at', text) = (writeE cs1 ps at' text, (cs1, ps ++ [(at', text)])) := fun _ => rfl
      rw [e1] at hs0 hgn ht
      dsimp only at hs0 hgn ht hst
      obtain ⟨_, hp, _⟩ := good_more hs0
      have hlt : ps1.length ≠ 400 := fun e => by
        unfold writeE at hs0
        rw [if_neg (by simp [of_good g1]), if_neg (by simp [hp]), if_pos e] at hs0
        cases hs0
      have hw' : writeE cs1 ps2 at' text = 0 := by
        unfold writeE
        have := g1.wait
        rw [if_neg (by simp [of_good g2]), if_neg (by simp [hp]), if_neg (by omega)]
      rw [if_neg (by decide : ¬ (1 : Int) = 2)]
      by_cases h2 : r.2 at' = 0
      · have hst' : staysB l k = true := by rw [hst, decide_eq_true (Or.inr h2)]
        simp only [hst', if_true]
        simp only [↓reduceIte, if_pos h2] at is
        refine ⟨cs1, ps1 ++ [(at', text)], ps2 ++ [(at', text)], ht, play_snoc i2 (by rw [e1]; exact hw'), hgn, (good_more hw').2.2, by simp; exact il, fun x hx h3 => ?_, by simp [iw], by simp [in'], ?_⟩
        · rw [now_put, now_put]
          by_cases e : at' = (x : Int)
          · rw [if_pos e, if_pos e]
          · rw [if_neg e, if_neg e]
            refine is x hx ?_
            rw [if_neg (fun e' => e e'.symm)]
            exact h3
        · rw [land_snocW _ _ _ _ _ iw, land_snoc, ← in', ij]
      · have hst' : staysB l k = false := by
          rw [hst, decide_eq_false]
          rintro (h' | h')
          · exact h' rfl
          · exact h2 h'
        simp only [hst', Bool.false_eq_true, if_false]
        simp only [↓reduceIte, if_neg h2] at is
        refine ⟨cs1, ps1 ++ [(at', text)], ps2, ht, i2, hgn, g2, by simp; omega, fun x hx h3 => ?_, by simp [iw], in', ?_⟩
        · rw [now_put, if_neg (fun e => h2 (by rw [e]; exact h3))]
          exact is x hx h3
        · rw [land_snocW _ _ _ _ _ iw, if_neg (by decide), ij]
    · have hst' : staysB l k = true := by rw [hst, decide_eq_true (Or.inl h1)]
      simp only [hst', if_true]
      by_cases h2 : kd = 2
      · subst h2
        by_cases h3 : at' = 0 ∧ text = ⟨#[]⟩
        · obtain ⟨rfl, rfl⟩ := h3
          have e1 : ∀ ps : List (Int × ByteArray), step1 (cs1, ps) (2, 0, ⟨#[]⟩) = (0, (land (fun _ => true) 0 cs1 ps, [])) := fun _ => rfl
          rw [e1] at hgn ht
          dsimp only at hgn ht
          simp only [if_neg (by decide : ¬ (2 : Int) = 1)] at is
          have hla := land_of_now g1 g2 fun x hx => is x hx trivial
          refine ⟨_, [], [], ht, ?_, hgn, hgn, Nat.le_refl _, fun _ _ _ => rfl, rfl, rfl, rfl⟩
          have := play_snoc (o := (2, 0, ⟨#[]⟩)) i2 (by rw [e1])
          rw [e1] at this
          rw [hla]
          exact this
        · have e1 : step1 (cs1, ps1) (2, at', text) = (4, (cs1, ps1)) := by
            unfold step1
            rw [if_neg (by show ¬ (2 : Int) = 1; decide), if_pos rfl, if_neg h3]
          rw [e1] at hs0
          exact absurd (show (4 : Int) = 0 from hs0) (by decide)
      · have e1 : step1 (cs1, ps1) (kd, at', text) = (4, (cs1, ps1)) := by
          unfold step1
          rw [if_neg h1, if_neg h2]
        rw [e1] at hs0
        exact absurd (show (4 : Int) = 0 from hs0) (by decide)
/-- which of the writes that wait at the beginning are kept -/
def keep0 (ks : List Bool) (n : Nat) : List Bool := (List.range n).map fun i => ks.getD i false
theorem keep0_len (ks : List Bool) (n : Nat) : (keep0 ks n).length = n := by simp [keep0]
theorem crash_out {cs : List ByteArray} {ps : List (Int × ByteArray)} {l : List Op} (ks : List Bool) (h : playE (cs, ps) l = 0) (k : Nat) (hk : k ≤ l.length) :
    ∃ cs1 ps1 ps2, play (cs, ps) (l.take k) = (0, (cs1, ps1)) ∧ play (cs, ps) (pre l k) = (0, (cs1, ps2)) ∧ disk.Good cs1 ps1 ∧ disk.Good cs1 ps2 ∧ playE (cs, ps) (l.take k) = 0 ∧ playE (cs, ps) (pre l k) = 0 ∧ land (fun i => (waitK ks l (keep0 ks ps.length) k).1.getD i false) 0 cs1 ps1 = land (fun i => ks.getD i false) 0 cs1 ps2 := by
  have hc : ¬ checkD cs ps ≠ 0 := by
    unfold playE at h
    split at h
    · rename_i h1; exact absurd h h1
    · rename_i h1; exact h1
  have hp : (play (cs, ps) l).1 = 0 := by
    unfold playE at h
    rw [if_neg hc] at h
    exact h
  have hg := good_of (by simpa using hc)
  obtain ⟨cs1, ps1, ps2, i1, i2, g1, g2, _, _, _, _, ij⟩ := crash_inv ks (keep0 ks ps.length) hg hp (keep0_len _ _) (land_congr 0 cs fun j hj => by
    rw [Nat.zero_add]
    simp [keep0, List.getD, hj]) k hk
  refine ⟨cs1, ps1, ps2, i1, i2, g1, g2, ?_, ?_, ij⟩
  · unfold playE; rw [if_neg hc, i1]
  · unfold playE; rw [if_neg hc, i2]
end Go.Proofs.Ytbgmfkhfbjgekaa.ops
