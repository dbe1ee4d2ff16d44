/-
  A small separation logic over the walk: memory as a list of entries, the frame as a list of slots. Nothing here speaks of the program.
-/
import Derived.Test.YtcbpeampjhegcaaRow2
import Derived.Orders
namespace Go.Proofs.Ytcbpeampjhegcaa.sl
open Go.RowKit kit
set_option linter.unusedVariables false

/-! ### entries of memory -/

/-- A statement about some blocks of memory: what it says holds as long as those blocks stay as they are. -/
structure Ent where
  excl : Bool
  foot : Nat → Prop
  holds : World → Prop
  lt : ∀ {w b}, holds w → foot b → b < w.heap.size
  keep : ∀ {w w' : World}, holds w → w'.os = w.os → w'.tape = w.tape → w'.output = w.output → w.heap.size ≤ w'.heap.size → (∀ b, foot b → w'.heap[b]? = w.heap[b]?) → holds w'

def Apart (e f : Ent) : Prop := (e.excl = true ∨ f.excl = true) → ∀ b, e.foot b → ¬ f.foot b
theorem Apart.symm {e f : Ent} (h : Apart e f) : Apart f e := fun hx b h1 h2 => h hx.symm b h2 h1

def HeapOk (H : List Ent) (w : World) : Prop := (∀ e ∈ H, e.holds w) ∧ H.Pairwise Apart

/-- Nothing but the blocks of S has changed. -/
structure Moved (S : Nat → Prop) (w w' : World) : Prop where
  os : w'.os = w.os
  tape : w'.tape = w.tape
  output : w'.output = w.output
  size : w.heap.size ≤ w'.heap.size
  block : ∀ b, b < w.heap.size → ¬ S b → w'.heap[b]? = w.heap[b]?

theorem Moved.refl (S : Nat → Prop) (w : World) : Moved S w w := ⟨rfl, rfl, rfl, Nat.le_refl _, fun _ _ _ => rfl⟩
theorem Ent.keepM {e : Ent} {S : Nat → Prop} {w w' : World} (h : e.holds w) (m : Moved S w w') (hd : ∀ b, e.foot b → ¬ S b) : e.holds w' :=
  e.keep h m.os m.tape m.output m.size fun b hb => m.block b (e.lt h hb) (hd b hb)

theorem HeapOk.perm {H H' : List Ent} {w : World} (p : H.Perm H') (h : HeapOk H w) : HeapOk H' w :=
  ⟨fun e he => h.1 e (p.mem_iff.2 he), (p.pairwise_iff (fun {a b} => Apart.symm)).1 h.2⟩
theorem HeapOk.sub {H H' : List Ent} {w : World} (p : H'.Sublist H) (h : HeapOk H w) : HeapOk H' w :=
  ⟨fun e he => h.1 e (p.subset he), h.2.sublist p⟩
theorem HeapOk.tail {e : Ent} {H : List Ent} {w : World} (h : HeapOk (e :: H) w) : HeapOk H w := h.sub (List.sublist_cons_self _ _)
theorem HeapOk.head {e : Ent} {H : List Ent} {w : World} (h : HeapOk (e :: H) w) : e.holds w := h.1 e List.mem_cons_self
theorem HeapOk.drew {H : List Ent} {w : World} (h : HeapOk H w) : HeapOk H { w with drawn := w.drawn + 1 } :=
  ⟨fun e he => e.keep (h.1 e he) rfl rfl rfl (Nat.le_refl _) fun _ _ => rfl, h.2⟩

theorem apart_of {H : List Ent} (h : H.Pairwise Apart) {e f : Ent} (he : e ∈ H) (hf : f ∈ H) (hne : e ≠ f) : Apart e f := by
  induction H with
  | nil => cases he
  | cons g H ih =>
    have hp := List.pairwise_cons.1 h
    rcases List.mem_cons.1 he with rfl | he
    · rcases List.mem_cons.1 hf with rfl | hf
      · exact absurd rfl hne
      · exact hp.1 f hf
    · rcases List.mem_cons.1 hf with hfg | hf
      · rw [hfg]; exact (hp.1 e he).symm
      · exact ih hp.2 he hf
/-- an entry takes another one's place -/
theorem HeapOk.upd {e e' : Ent} {H : List Ent} {w w' : World} (h : HeapOk (e :: H) w) (he : e.excl = true) (hm : Moved e.foot w w') (hh : e'.holds w')
    (hf : ∀ b, e'.foot b → e.foot b ∨ w.heap.size ≤ b) : HeapOk (e' :: H) w' := by
  have hp := List.pairwise_cons.1 h.2
  refine ⟨fun f hfm => ?_, List.pairwise_cons.2 ⟨fun f hfm _ b h1 h2 => ?_, hp.2⟩⟩
  · rcases List.mem_cons.1 hfm with rfl | hfm
    · exact hh
    · exact Ent.keepM (h.1 f (List.mem_cons_of_mem _ hfm)) hm fun b hb hb2 => hp.1 f hfm (.inl he) b hb2 hb
  · rcases hf b h1 with h3 | h3
    · exact hp.1 f hfm (.inl he) b h3 h2
    · exact absurd (f.lt (h.1 f (List.mem_cons_of_mem _ hfm)) h2) (by omega)
/-- a new entry in new blocks -/
theorem HeapOk.new {e' : Ent} {H : List Ent} {w w' : World} (h : HeapOk H w) (hm : Moved (fun _ => False) w w') (hh : e'.holds w')
    (hf : ∀ b, e'.foot b → w.heap.size ≤ b) : HeapOk (e' :: H) w' := by
  refine ⟨fun f hfm => ?_, List.pairwise_cons.2 ⟨fun f hfm _ b h1 h2 => ?_, h.2⟩⟩
  · rcases List.mem_cons.1 hfm with rfl | hfm
    · exact hh
    · exact Ent.keepM (h.1 f hfm) hm fun b hb hb2 => hb2
  · exact absurd (f.lt (h.1 f hfm) h2) (by have := hf b h1; omega)
theorem HeapOk.moved {H : List Ent} {w w' : World} (h : HeapOk H w) (hm : Moved (fun _ => False) w w') : HeapOk H w' :=
  ⟨fun f hfm => Ent.keepM (h.1 f hfm) hm fun b hb hb2 => hb2, h.2⟩
/-- what is shared may be told once more, or told of a part -/
theorem HeapOk.shared {e' : Ent} {H : List Ent} {w : World} (h : HeapOk H w) (he : e'.excl = false) (hh : e'.holds w)
    (hf : ∀ b, e'.foot b → ∃ e ∈ H, e.excl = false ∧ e.foot b) : HeapOk (e' :: H) w := by
  refine ⟨fun f hfm => ?_, List.pairwise_cons.2 ⟨fun f hfm hx b h1 h2 => ?_, h.2⟩⟩
  · rcases List.mem_cons.1 hfm with rfl | hfm
    · exact hh
    · exact h.1 f hfm
  · obtain ⟨g, hg, hg1, hg2⟩ := hf b h1
    rcases hx with hx | hx
    · rw [he] at hx; cases hx
    · by_cases hgf : g = f
      · subst hgf; rw [hg1] at hx; cases hx
      · exact (apart_of h.2 hg hfm hgf) (.inr hx) b hg2 h2
/-- an entry is turned into a lesser one -/
theorem HeapOk.lesser {e e' : Ent} {H : List Ent} {w : World} (h : HeapOk (e :: H) w) (hx : e'.excl = true → e.excl = true) (hh : e'.holds w)
    (hf : ∀ b, e'.foot b → e.foot b) : HeapOk (e' :: H) w := by
  have hp := List.pairwise_cons.1 h.2
  refine ⟨fun f hfm => ?_, List.pairwise_cons.2 ⟨fun f hfm hxx b h1 h2 => hp.1 f hfm (hxx.imp hx id) b (hf b h1) h2, hp.2⟩⟩
  rcases List.mem_cons.1 hfm with rfl | hfm
  · exact hh
  · exact h.1 f (List.mem_cons_of_mem _ hfm)

/-! ### picking -/
/-- e stands in H; R is the rest -/
inductive Pick (e : Ent) : List Ent → List Ent → Prop
  | here {H} : Pick e (e :: H) H
  | there {f H R} : Pick e H R → Pick e (f :: H) (f :: R)
theorem Pick.perm {e : Ent} {H R : List Ent} (p : Pick e H R) : H.Perm (e :: R) := by
  induction p with
  | here => exact List.Perm.refl _
  | there _ ih => exact (ih.cons _).trans (List.Perm.swap _ _ _)
theorem Pick.mem {e : Ent} {H R : List Ent} (p : Pick e H R) : e ∈ H := p.perm.mem_iff.2 List.mem_cons_self
/-- the entries of C are taken out of H (those that are shared stay) -/
inductive Picks : List Ent → List Ent → List Ent → Prop
  | nil {H S} : List.Sublist S H → Picks [] H S
  | out {e C H R S} : Pick e H R → Picks C R S → Picks (e :: C) H S
  | share {e C H R S} : Pick e H R → e.excl = false → Picks C H S → Picks (e :: C) H S
theorem Picks.ok {C H R : List Ent} (p : Picks C H R) : ∀ {w : World}, HeapOk H w → HeapOk (C ++ R) w := by
  induction p with
  | nil hs => exact fun h => h.sub hs
  | @out e C H R S p _ ih =>
    intro w h
    have h1 := h.perm p.perm
    have hp := List.pairwise_cons.1 h1.2
    have h2 := ih h1.tail
    refine ⟨fun f hf => ?_, List.pairwise_cons.2 ⟨fun f hf => ?_, h2.2⟩⟩
    · rcases List.mem_cons.1 hf with rfl | hf
      · exact h1.head
      · exact h2.1 f hf
    · rename_i q
      have : ∀ f ∈ C ++ S, f ∈ R := by
        clear ih h2 h1 hp hf p h
        induction q with
        | nil hs => exact fun f hf => hs.subset hf
        | out p _ ih =>
          intro f hf
          rcases List.mem_cons.1 hf with rfl | hf
          · exact p.mem
          · exact p.perm.mem_iff.2 (List.mem_cons_of_mem _ (ih f hf))
        | share p _ _ ih =>
          intro f hf
          rcases List.mem_cons.1 hf with rfl | hf
          · exact p.mem
          · exact ih f hf
      exact hp.1 f (this f hf)
  | @share e C H R S p hx q ih =>
    intro w h
    have h2 := ih h
    have hsub : ∀ f ∈ C ++ S, f ∈ H := by
      clear ih h2 p hx
      induction q with
      | nil hs => exact fun f hf => hs.subset hf
      | out p _ ih =>
        intro f hf
        rcases List.mem_cons.1 hf with rfl | hf
        · exact p.mem
        · exact p.perm.mem_iff.2 (List.mem_cons_of_mem _ (ih (h.perm p.perm).tail f hf))
      | share p _ _ ih =>
        intro f hf
        rcases List.mem_cons.1 hf with rfl | hf
        · exact p.mem
        · exact ih h f hf
    refine ⟨fun f hf => ?_, List.pairwise_cons.2 ⟨fun f hf hxx b h3 h4 => ?_, h2.2⟩⟩
    · rcases List.mem_cons.1 hf with rfl | hf
      · exact h.1 _ p.mem
      · exact h2.1 f hf
    · rcases hxx with hxx | hxx
      · rw [hx] at hxx; cases hxx
      · have hne : e ≠ f := by
          intro e'
          subst e'
          rw [hx] at hxx
          cases hxx
        exact (apart_of h.2 p.mem (hsub f hf) hne) (.inr hxx) b h3 h4
/-- what H says is at least what H' says -/
def HSub (H H' : List Ent) : Prop := ∀ w, HeapOk H w → HeapOk H' w
theorem HSub.refl (H : List Ent) : HSub H H := fun _ h => h
theorem HSub.nil (H : List Ent) : HSub H [] := fun _ _ => ⟨fun _ h => absurd h (List.not_mem_nil), List.Pairwise.nil⟩
theorem HSub.of_picks {C H R : List Ent} (p : Picks C H R) : HSub H C := fun w h => (p.ok h).sub (List.sublist_append_left C R)
theorem HSub.of_picks_rest {C H R : List Ent} (p : Picks C H R) : HSub H (C ++ R) := fun w h => p.ok h
theorem HSub.drop {e : Ent} {H H' : List Ent} (h : HSub H H') : HSub (e :: H) H' := fun w hw => h w hw.tail
theorem HSub.of_sub {H H' : List Ent} (p : H'.Sublist H) : HSub H H' := fun w h => h.sub p
theorem HSub.trans {A B C : List Ent} (h : HSub A B) (k : HSub B C) : HSub A C := fun w hw => k w (h w hw)

/-- T is covered by H: each entry stands in H, the end of T is a part of what is left -/
inductive Cov : List Ent → List Ent → Prop
  | base {T H} : List.Sublist T H → Cov T H
  | out {e H R T} : Pick e H R → Cov T R → Cov (e :: T) H
  | share {e H R T} : Pick e H R → e.excl = false → Cov T H → Cov (e :: T) H
theorem Cov.picks {T H : List Ent} (c : Cov T H) : ∃ C S, T = C ++ S ∧ Picks C H S := by
  induction c with
  | base h => exact ⟨[], _, rfl, Picks.nil h⟩
  | out p _ ih =>
    obtain ⟨C, S, e, q⟩ := ih
    exact ⟨_ :: C, S, by rw [e]; rfl, Picks.out p q⟩
  | share p hx _ ih =>
    obtain ⟨C, S, e, q⟩ := ih
    exact ⟨_ :: C, S, by rw [e]; rfl, Picks.share p hx q⟩
theorem HSub.of_cov {T H : List Ent} (c : Cov T H) : HSub H T := by
  obtain ⟨C, S, rfl, q⟩ := c.picks
  exact HSub.of_picks_rest q

/-! ### the frame -/
abbrev Frm := List (Nat × Value)
def look : Frm → Nat → Option Value
  | [], _ => none
  | (s, v) :: F, t => bif Nat.beq s t then some v else look F t
def ev (F : Frm) : Operand → Option Value
  | .tmp t => look F t
  | .const v => some v
  | .global g => some (.pointer (some ⟨g, 0, none⟩))
  | .func f => some (.func (.func f) #[] #[])
structure Ok (F : Frm) (n : Nat) (a : Act) : Prop where
  defers : a.defers = []
  size : a.tmps.size = n
  slot : ∀ t v, look F t = some v → a.tmps[t]? = some v
theorem Ok.eval {F : Frm} {n : Nat} {a : Act} (h : Ok F n a) {x : Operand} {v : Value} (hx : ev F x = some v) : a.eval x = v := by
  cases x with
  | tmp t => simp [Act.eval, h.slot t v hx]
  | const v => simpa [ev, Act.eval] using hx
  | global g => simpa [ev, Act.eval] using hx
  | func f => simpa [ev, Act.eval] using hx
def upd (F : Frm) : Option Nat → Value → Frm
  | none, _ => F
  | some d, v => (d, v) :: F
def fits (n : Nat) : Option Nat → Bool
  | none => true
  | some d => Nat.blt d n
theorem Ok.put {F : Frm} {n : Nat} {a : Act} (h : Ok F n a) {d : Option Nat} {v : Value} (hd : fits n d = true) : Ok (upd F d v) n (a.put d v) := by
  cases d with
  | none => exact h
  | some d =>
    have hdn : d < n := by simpa [fits] using hd
    refine ⟨h.defers, by simp [Act.put, h.size], fun t u hu => ?_⟩
    simp only [upd, look] at hu
    simp only [Act.put, Array.getElem?_setIfInBounds]
    by_cases hdt : d = t
    · subst hdt
      rw [if_pos rfl, if_pos (by rw [h.size]; exact hdn)]
      simpa using hu
    · rw [if_neg hdt]
      have : Nat.beq d t = false := by
        cases hb : Nat.beq d t with
        | false => rfl
        | true => exact absurd (Nat.eq_of_beq_eq_true hb) hdt
      rw [this] at hu
      exact h.slot t u hu
/-- what G says of the slots, F says too -/
def FSub (F G : Frm) : Prop := ∀ t v, look G t = some v → look F t = some v
theorem Ok.sub {F G : Frm} {n : Nat} {a : Act} (h : Ok F n a) (hs : FSub F G) : Ok G n a := ⟨h.defers, h.size, fun t v ht => h.slot t v (hs t v ht)⟩
theorem FSub.refl (F : Frm) : FSub F F := fun _ _ h => h
/-- ..slot by slot; those of 'seen' are hidden -/
inductive FSubS (F : Frm) : List Nat → Frm → Prop
  | nil {seen} : FSubS F seen []
  | skip {seen t v G} : seen.contains t = true → FSubS F seen G → FSubS F seen ((t, v) :: G)
  | cons {seen t v G} : look F t = some v → FSubS F (t :: seen) G → FSubS F seen ((t, v) :: G)
theorem FSubS.slot {F : Frm} {seen : List Nat} {G : Frm} (h : FSubS F seen G) : ∀ t v, seen.contains t = false → look G t = some v → look F t = some v := by
  induction h with
  | nil => intro t v _ h; cases h
  | @skip seen s u G hs _ ih =>
    intro t v ht hl
    simp only [look] at hl
    cases hb : Nat.beq s t with
    | true => rw [Nat.eq_of_beq_eq_true hb] at hs; rw [hs] at ht; cases ht
    | false => rw [hb] at hl; exact ih t v ht hl
  | @cons seen s u G hs _ ih =>
    intro t v ht hl
    simp only [look] at hl
    cases hb : Nat.beq s t with
    | true =>
      rw [hb] at hl
      have := Nat.eq_of_beq_eq_true hb
      subst this
      simp at hl
      rw [← hl]; exact hs
    | false =>
      rw [hb] at hl
      refine ih t v ?_ hl
      have hne : (t == s) = false := by
        cases hc : t == s with
        | false => rfl
        | true => rw [beq_iff_eq] at hc; subst hc; simp at hb
      rw [List.contains_cons, hne, ht]; rfl
theorem FSub.of {F G : Frm} (h : FSubS F [] G) : FSub F G := fun t v ht => h.slot t v rfl ht

theorem look_append (G F : Frm) (t : Nat) : look (G ++ F) t = match look G t with | some u => some u | none => look F t := by
  induction G with
  | nil => rfl
  | cons p G ih =>
    obtain ⟨s, u⟩ := p
    simp only [List.cons_append, look]
    cases Nat.beq s t with
    | true => rfl
    | false => exact ih
/-! ### code -/
abbrev Post := Exit → Act → World → Prop
def Pst (Q : Post) (e : Exit) (n : Nat) (F : Frm) (H : List Ent) : Prop := ∀ a w, Ok F n a → HeapOk H w → Q e a w
def Cod (P : Program) (Q : Post) (n : Nat) (c : Code) (F : Frm) (H : List Ent) : Prop := ∀ a w, Ok F n a → HeapOk H w → c.wp P Q a w
def Run (P : Program) (ops : Array Oper) (Q : Post) (n : Nat) (l : List Oper) (F : Frm) (H : List Ent) : Prop := ∀ a w, Ok F n a → HeapOk H w → wpList P ops Q l a w

section
variable {P : Program} {Q : Post} {n : Nat} {F : Frm} {H : List Ent}
theorem cod_weak {c : Code} {G : Frm} {H' : List Ent} (hF : FSub F G) (hH : HSub H H') (h : Cod P Q n c G H') : Cod P Q n c F H := fun a w ha hw => h a w (ha.sub hF) (hH w hw)
theorem cod_heap {c : Code} {H' : List Ent} (hH : HSub H H') (h : Cod P Q n c F H') : Cod P Q n c F H := fun a w ha hw => h a w ha (hH w hw)
theorem run_heap {ops : Array Oper} {l : List Oper} {H' : List Ent} (hH : HSub H H') (h : Run P ops Q n l F H') : Run P ops Q n l F H := fun a w ha hw => h a w ha (hH w hw)
theorem run_frame {ops : Array Oper} {l : List Oper} {G : Frm} (hF : FSub F G) (h : Run P ops Q n l G H) : Run P ops Q n l F H := fun a w ha hw => h a w (ha.sub hF) hw
theorem pst_weak {e : Exit} {G : Frm} {H' : List Ent} (hF : FSub F G) (hH : HSub H H') (h : Pst Q e n G H') : Pst Q e n F H := fun a w ha hw => h a w (ha.sub hF) (hH w hw)
theorem cod_seq {x y : Code} (h : Cod P (Exit.then (y.wp P Q) Q) n x F H) : Cod P Q n (.seq x y) F H := fun a w ha hw => wp_seq (h a w ha hw)
theorem cod_skip (h : Pst Q .normal n F H) : Cod P Q n .skip F H := fun a w ha hw => wp_skip (h a w ha hw)
theorem cod_exit {id : Nat} (h : Pst Q (.exit id) n F H) : Cod P Q n (.exit id) F H := fun a w ha hw => wp_exit (h a w ha hw)
theorem cod_ret (h : Pst Q .ret n F H) : Cod P Q n .ret F H := fun a w ha hw => wp_ret (h a w ha hw)
theorem cod_cond {c : Operand} {x y : Code} (t : Bool) (hc : ev F c = some (.bool t)) (h1 : t = true → Cod P Q n x F H) (h2 : t = false → Cod P Q n y F H) : Cod P Q n (.cond c x y) F H :=
  fun a w ha hw => wp_cond_split (ha.eval hc) (fun ht => h1 ht a w ha hw) (fun ht => h2 ht a w ha hw)
theorem cod_cond_t {c : Operand} {x y : Code} (hc : ev F c = some (.bool true)) (h : Cod P Q n x F H) : Cod P Q n (.cond c x y) F H :=
  cod_cond true hc (fun _ => h) fun h => by cases h
theorem cod_cond_f {c : Operand} {x y : Code} (hc : ev F c = some (.bool false)) (h : Cod P Q n y F H) : Cod P Q n (.cond c x y) F H :=
  cod_cond false hc (fun h => by cases h) fun _ => h
theorem cod_block {id : Nat} {c : Code} (h : Cod P (Exit.inBlock id Q) n c F H) : Cod P Q n (.block id c) F H := fun a w ha hw => wp_block (h a w ha hw)
theorem cod_region {id : Nat} {l : List Oper} (h : Run P l.toArray Q n l F H) : Cod P Q n (.region id l.toArray false) F H := fun a w ha hw => wp_region_lit (h a w ha hw)
theorem run_nil {ops : Array Oper} (h : Pst Q .normal n F H) : Run P ops Q n [] F H := fun a w ha hw => wpList_nil (h a w ha hw)
theorem pst_then {y : Code} (h : Cod P Q n y F H) : Pst (Exit.then (y.wp P Q) Q) .normal n F H := h
theorem pst_then_exit {K : Act → World → Prop} {id : Nat} (h : Pst Q (.exit id) n F H) : Pst (Exit.then K Q) (.exit id) n F H := h
theorem pst_then_ret {K : Act → World → Prop} (h : Pst Q .ret n F H) : Pst (Exit.then K Q) .ret n F H := h
theorem pst_block {id : Nat} (h : Pst Q .normal n F H) : Pst (Exit.inBlock id Q) .normal n F H := h
theorem pst_block_ret {id : Nat} (h : Pst Q .ret n F H) : Pst (Exit.inBlock id Q) .ret n F H := h
theorem pst_block_here {id : Nat} (h : Pst Q .normal n F H) : Pst (Exit.inBlock id Q) (.exit id) n F H := fun a w ha hw => by
  show if id = id then _ else _
  rw [if_pos rfl]; exact h a w ha hw
theorem pst_block_out {id i : Nat} (hne : Nat.beq i id = false) (h : Pst Q (.exit i) n F H) : Pst (Exit.inBlock id Q) (.exit i) n F H := fun a w ha hw => by
  show if i = id then _ else _
  rw [if_neg (fun e => by subst e; simp at hne)]; exact h a w ha hw

/-- what a round must bring about -/
def Again {σ : Type} (n : Nat) (I : σ → Prop) (Fi : σ → Frm) (Hi : σ → List Ent) (μ : σ → Nat) (k : Nat) (a : Act) (w : World) : Prop := ∃ y, I y ∧ Ok (Fi y) n a ∧ HeapOk (Hi y) w ∧ μ y < k
theorem least {p : Nat → Prop} (h : ∃ k, p k) : ∃ k, p k ∧ ∀ j, p j → k ≤ j := by
  obtain ⟨k, hk⟩ := h
  induction k using Nat.strongRecOn with
  | _ k ih =>
    by_cases hj : ∃ j, j < k ∧ p j
    · obtain ⟨j, h1, h2⟩ := hj
      exact ih j h1 h2
    · exact ⟨k, hk, fun j h => Nat.le_of_not_lt fun hlt => hj ⟨j, hlt, h⟩⟩
theorem cod_loop {c : Code} {σ : Type} (I : σ → Prop) (Fi : σ → Frm) (Hi : σ → List Ent) (μ : σ → Nat) (x0 : σ) (h0 : I x0) (hF : FSub F (Fi x0)) (hH : HSub H (Hi x0))
    (round : ∀ x, I x → Cod P (Exit.then (Again n I Fi Hi μ (μ x)) Q) n c (Fi x) (Hi x)) : Cod P Q n (.loop c) F H := by
  classical
  intro a w ha hw
  let J : Act → World → Nat → Prop := fun a w k => ∃ x, I x ∧ Ok (Fi x) n a ∧ HeapOk (Hi x) w ∧ μ x = k
  let m : Act → World → Nat := fun a w => if h : ∃ k, J a w k then Classical.choose (least h) else 0
  refine wp_loop (fun a w => ∃ k, J a w k) m ⟨_, x0, h0, ha.sub hF, hH w hw, rfl⟩ ?_
  intro a w hI
  have hm : m a w = Classical.choose (least hI) := by simp only [m]; rw [dif_pos hI]
  obtain ⟨x, h1, h2, h3, h4⟩ := (Classical.choose_spec (least hI)).1
  refine wp_mono (round x h1 a w h2 h3) ?_
  intro e a' w' hq
  cases e <;> try exact hq
  obtain ⟨y, g1, g2, g3, g4⟩ := hq
  have hJ : ∃ k, J a' w' k := ⟨_, y, g1, g2, g3, rfl⟩
  refine ⟨hJ, ?_⟩
  have hm' : m a' w' = Classical.choose (least hJ) := by simp only [m]; rw [dif_pos hJ]
  rw [hm, hm', ← h4]
  exact Nat.lt_of_le_of_lt ((Classical.choose_spec (least hJ)).2 _ ⟨y, g1, g2, g3, rfl⟩) g4
theorem pst_again {σ : Type} {I : σ → Prop} {Fi : σ → Frm} {Hi : σ → List Ent} {μ : σ → Nat} {k : Nat} (y : σ) (hI : I y) (hF : FSub F (Fi y)) (hH : HSub H (Hi y)) (hμ : μ y < k) : Pst (Exit.then (Again n I Fi Hi μ k) Q) .normal n F H :=
  fun a w ha hw => ⟨y, hI, ha.sub hF, hH w hw, hμ⟩
end

section
variable {P : Program} {Q : Post} {n : Nat} {F : Frm} {H : List Ent}
/-- a loop: the slots of G x stand over the frame that was there ahead of it; memory is as it was -/
theorem cod_loop_ro {c : Code} {σ : Type} (I : σ → Prop) (G : σ → Frm) (μ : σ → Nat) (x0 : σ) (h0 : I x0) (hF : FSubS F [] (G x0))
    (round : ∀ x, I x → Cod P (Exit.then (Again n I (fun x => G x ++ F) (fun _ => H) μ (μ x)) Q) n c (G x ++ F) H) : Cod P Q n (.loop c) F H :=
  cod_loop I (fun x => G x ++ F) (fun _ => H) μ x0 h0 (fun t v h => by
    rw [look_append] at h
    split at h
    · rename_i u hu
      simp only [Option.some.injEq] at h
      subst h
      exact hF.slot t u rfl hu
    · exact h) (HSub.refl H) round
theorem cod_loop_rw {c : Code} {σ : Type} (I : σ → Prop) (G : σ → Frm) (E : σ → List Ent) (S : List Ent) (μ : σ → Nat) (x0 : σ) (h0 : I x0) (hF : FSubS F [] (G x0)) (hH : HSub H (E x0 ++ S))
    (round : ∀ x, I x → Cod P (Exit.then (Again n I (fun x => G x ++ F) (fun x => E x ++ S) μ (μ x)) Q) n c (G x ++ F) (E x ++ S)) : Cod P Q n (.loop c) F H :=
  cod_loop I (fun x => G x ++ F) (fun x => E x ++ S) μ x0 h0 (fun t v h => by
    rw [look_append] at h
    split at h
    · rename_i u hu
      simp only [Option.some.injEq] at h
      subst h
      exact hF.slot t u rfl hu
    · exact h) hH round
end

/-! ### contracts -/
structure Ct (P : Program) (f : FuncId) (args : List Value) (H : List Ent) (R : Value → List Ent → Prop) : Prop where
  go : ∀ Fr w, HeapOk (H ++ Fr) w → Calls P f args.toArray w fun e w' => ∃ v H', e = .returned v ∧ R v H' ∧ HeapOk (H' ++ Fr) w'
def ini : Nat → List Value → Frm
  | _, [] => []
  | k, v :: l => (k, v) :: ini (k + 1) l
theorem look_ini : ∀ (l : List Value) (k t : Nat) (v : Value), look (ini k l) t = some v → k ≤ t ∧ l[t - k]? = some v := by
  intro l
  induction l with
  | nil => intro k t v h; cases h
  | cons u l ih =>
    intro k t v h
    simp only [ini, look] at h
    cases hb : Nat.beq k t with
    | true =>
      rw [hb] at h
      have := Nat.eq_of_beq_eq_true hb
      subst this
      simp at h
      simp [h]
    | false =>
      rw [hb] at h
      obtain ⟨h1, h2⟩ := ih (k + 1) t v h
      refine ⟨by omega, ?_⟩
      rw [show t - k = (t - (k + 1)) + 1 from by omega]
      simpa using h2
def Fin (P : Program) (fn : Func) (R : Value → List Ent → Prop) (Fr : List Ent) : Post := bodyPost P fn fun e w' => ∃ v H', e = .returned v ∧ R v H' ∧ HeapOk (H' ++ Fr) w'
theorem spec_enter {P : Program} {f : FuncId} {fn : Func} {c : Code} {args : List Value} {H : List Ent} {R : Value → List Ent → Prop} {n : Nat} (hf : P.funcs[f]? = some fn) (hnt : fn.ntmps = n) (hb : fn.body = some c) (hn : Nat.ble args.length n = true)
    (h : ∀ Fr, Cod P (Fin P fn R Fr) n c (ini 0 args) (H ++ Fr)) : Ct P f args H R := by
  refine ⟨fun Fr w hw => ?_⟩
  subst hnt
  refine calls_of_wp hf hb (h Fr _ w ⟨rfl, ?_, ?_⟩ hw)
  · have := Nat.le_of_ble_eq_true hn
    simp; omega
  · intro t v ht
    have := look_ini args 0 t v ht
    obtain ⟨_, h2⟩ := this
    simp only [Nat.sub_zero] at h2
    have hl := (List.getElem?_eq_some_iff.1 h2).1
    rw [Array.getElem?_append_left (by simpa using hl)]
    simpa using h2
theorem spec_mono {P : Program} {f : FuncId} {args : List Value} {H : List Ent} {R R' : Value → List Ent → Prop} (h : Ct P f args H R) (hr : ∀ v H', R v H' → R' v H') : Ct P f args H R' :=
  ⟨fun Fr w hw => (h.go Fr w hw).mono fun _ _ ⟨v, H', h1, h2, h3⟩ => ⟨v, H', h1, hr _ _ h2, h3⟩⟩

/-- a result, as it is read at the end -/
def rd (tmps : Array Value) : ResultVar → Sem Value
  | .tmp t => pure (tmps.getD t undef)
  | .cell a t => do loadVar t (← asAddr (tmps.getD a undef))
inductive ResV (P : Program) (F : Frm) (H : List Ent) : ResultVar → Value → Prop
  | tmp {t v} : look F t = some v → ResV P F H (.tmp t) v
  | read {t ty a v} : look F t = some (.pointer (some a)) → (∀ w, HeapOk H w → (loadVar ty a).run P w = .ok v w) → ResV P F H (.cell t ty) v
theorem ResV.run {P : Program} {F : Frm} {H : List Ent} {r : ResultVar} {v : Value} (h : ResV P F H r v) {n : Nat} {a : Act} {w : World} (ha : Ok F n a) (hw : HeapOk H w) : (rd a.tmps r).run P w = .ok v w := by
  cases h with
  | tmp h1 => simp [rd, ha.slot _ _ h1]
  | read h1 h2 => simp [rd, ha.slot _ _ h1, asAddr, h2 w hw]
inductive Res (P : Program) (F : Frm) (H : List Ent) : List ResultVar → Value → Prop
  | r0 : Res P F H [] (.tuple #[])
  | r1 {r v} : ResV P F H r v → Res P F H [r] v
  | r2 {r v r' v'} : ResV P F H r v → ResV P F H r' v' → Res P F H [r, r'] (.tuple #[v, v'])
  | r3 {r v r' v' r3 v3} : ResV P F H r v → ResV P F H r' v' → ResV P F H r3 v3 → Res P F H [r, r', r3] (.tuple #[v, v', v3])
  | r4 {r v r' v' r3 v3 r4 v4} : ResV P F H r v → ResV P F H r' v' → ResV P F H r3 v3 → ResV P F H r4 v4 → Res P F H [r, r', r3, r4] (.tuple #[v, v', v3, v4])
  | r5 {r v r' v' r3 v3 r4 v4 r5 v5} : ResV P F H r v → ResV P F H r' v' → ResV P F H r3 v3 → ResV P F H r4 v4 → ResV P F H r5 v5 → Res P F H [r, r', r3, r4, r5] (.tuple #[v, v', v3, v4, v5])
theorem results_rd (fn : Func) (tmps : Array Value) : results fn tmps = (fn.results.mapM (rd tmps) >>= fun vs => pure (if h : vs.size = 1 then vs[0] else .tuple vs)) := by
  have e : rd tmps = (fun | .tmp t => pure (tmps.getD t undef) | .cell a t => do loadVar t (← asAddr (tmps.getD a undef))) := by
    funext r; cases r <;> rfl
  unfold results
  rw [e]
  rfl
theorem Res.results {P : Program} {fn : Func} {F : Frm} {H : List Ent} {v : Value} {rs : List ResultVar} (hrs : fn.results = rs.toArray) (h : Res P F H rs v) {n : Nat} {a : Act} {w : World} (ha : Ok F n a) (hw : HeapOk H w) :
    (results fn a.tmps).run P w = .ok v w := by
  rw [results_rd, hrs]
  cases h with
  | r0 => simp
  | r1 h1 => simp [h1.run ha hw]
  | r2 h1 h2 => simp [h1.run ha hw, h2.run ha hw]
  | r3 h1 h2 h3 => simp [h1.run ha hw, h2.run ha hw, h3.run ha hw]
  | r4 h1 h2 h3 h4 => simp [h1.run ha hw, h2.run ha hw, h3.run ha hw, h4.run ha hw]
  | r5 h1 h2 h3 h4 h5 => simp [h1.run ha hw, h2.run ha hw, h3.run ha hw, h4.run ha hw, h5.run ha hw]
theorem pst_fin {P : Program} {fn : Func} {R : Value → List Ent → Prop} {Fr : List Ent} {n : Nat} {F : Frm} {H : List Ent} {rs : List ResultVar} (hrs : fn.results = rs.toArray) {v : Value} (hr : Res P F H rs v) (H' : List Ent) (hR : R v H') (hH : HSub H (H' ++ Fr)) : Pst (Fin P fn R Fr) .ret n F H :=
  fun a w ha hw => ⟨ha.defers, _, hr.results hrs ha hw, _, _, rfl, hR, hH w hw⟩
theorem pst_fin_end {P : Program} {fn : Func} {R : Value → List Ent → Prop} {Fr : List Ent} {n : Nat} {F : Frm} {H : List Ent} {rs : List ResultVar} (hrs : fn.results = rs.toArray) {v : Value} (hr : Res P F H rs v) (H' : List Ent) (hR : R v H') (hH : HSub H (H' ++ Fr)) : Pst (Fin P fn R Fr) .normal n F H :=
  fun a w ha hw => ⟨ha.defers, _, hr.results hrs ha hw, _, _, rfl, hR, hH w hw⟩
end Go.Proofs.Ytcbpeampjhegcaa.sl
