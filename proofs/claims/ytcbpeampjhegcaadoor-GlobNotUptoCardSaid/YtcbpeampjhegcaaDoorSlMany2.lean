/-
  The small separation logic: what is one's own is from now on only read; many slices and many more; a slice from a place on. Nothing here speaks of the program.
-/
import Derived.Test.YtcbpeampjhegcaaDoorSlMany
import Derived.Test.YtcbpeampjhegcaaDoorSlSub
namespace Go.Proofs.YtcbpeampjhegcaaDoor.sl
open Go.RowKit kit
set_option linter.unusedVariables false
theorem heap_less {e c : Ent} {H R : List Ent} (p : Pick e H R) (hv : View [e] c) : HSub H (c :: R) := fun w hw => by
  have h := hw.perm p.perm
  refine h.lesser (fun hx => by rw [hv.shared] at hx; cases hx) (hv.holds w (h.sub (by simp))) fun b hb => ?_
  obtain ⟨e', he, hf⟩ := hv.foot b hb
  rw [List.mem_singleton.1 he] at hf
  exact hf
theorem heap_sl {α : Type} {f : α → List Value} {ys : List α} {v : Value} {e sz m : Nat} {H R : List Ent} (p : Pick (own v e sz m (flat f ys)) H R) (hf : ∀ y, (f y).length = sz) (hm : m = ys.length) : HSub H (sl sz v (ys.map f) :: R) :=
  heap_less p (View.own Pick.here hf hm)
theorem many_app {sz : Nat} {a b : Lots} {H R S : List Ent} (p : Pick (many sz a) H R) (q : Pick (many sz b) R S) : HSub H (many sz (a ++ b) :: S) := fun w hw => by
  have h := hw.perm (p.perm.trans (q.perm.cons _))
  have h1 := List.pairwise_cons.1 h.2
  have h2 := List.pairwise_cons.1 h1.2
  refine ⟨fun e he => ?_, List.pairwise_cons.2 ⟨fun f hf hx k hk hk2 => ?_, h2.2⟩⟩
  · rcases List.mem_cons.1 he with rfl | he
    · intro x hx
      rcases List.mem_append.1 hx with hx | hx
      · exact h.1 (many sz a) List.mem_cons_self x hx
      · exact h.1 (many sz b) (List.mem_cons_of_mem _ List.mem_cons_self) x hx
    · exact h.1 e (List.mem_cons_of_mem _ (List.mem_cons_of_mem _ he))
  · rcases hx with hx | hx
    · cases hx
    · obtain ⟨x, hx1, hx2⟩ := hk
      rcases List.mem_append.1 hx1 with hx1 | hx1
      · exact h1.1 f (List.mem_cons_of_mem _ hf) (.inr hx) k ⟨x, hx1, hx2⟩ hk2
      · exact h2.1 f hf (.inr hx) k ⟨x, hx1, hx2⟩ hk2
theorem sliceAt_from {w : World} {sz N c i : Nat} {q : Option Addr} {α : Type} {f : α → List Value} {xs : List α} (h : SliceAt w sz (.slice q N c) (xs.map f)) (hN : xs.length = N) (hi : i ≤ N) : SliceAt w sz (.slice (subq q i c sz) (N - i) (c - i)) ((xs.drop i).map f) := by
  rcases h with ⟨h0, h1⟩ | ⟨b, off, cap, hv, h2, h3, h4, h5, h6⟩
  · have hx : xs = [] := by simpa using h0
    subst hx
    have hN0 : N = 0 := hN.symm
    subst hN0
    have hi0 : i = 0 := by omega
    subst hi0
    refine .inl ⟨rfl, ?_⟩
    rcases h1 with h1 | ⟨ad, cap, h1⟩
    · cases h1
      exact .inl (by simp [subq])
    · cases h1
      unfold subq
      split
      · exact .inr ⟨_, _, rfl⟩
      · exact .inr ⟨_, _, rfl⟩
  · cases hv
    simp only [List.length_map] at h2 h4
    by_cases he : i = xs.length
    · have hd : (xs.drop i).map f = [] := by rw [List.drop_of_length_le (by omega)]; rfl
      rw [hd]
      refine .inl ⟨rfl, .inr ?_⟩
      rw [List.length_map, he, Nat.sub_self]
      unfold subq
      split
      · exact ⟨_, _, rfl⟩
      · exact ⟨_, _, rfl⟩
    · rw [List.length_map] at hi ⊢
      have hq : subq (some ⟨b, off, none⟩) i c sz = some ⟨b, off + i * sz, none⟩ := by
        unfold subq
        rw [if_neg (by omega)]
        show some (Addr.add _ _) = _
        rw [addr_add]
      have hl : ((xs.drop i).map f).length = xs.length - i := by simp
      rw [hq]
      refine .inr ⟨b, off + i * sz, c - i, by rw [hl], by omega, by omega, by omega, h5, fun j r hr => ?_⟩
      rw [List.map_drop, List.getElem?_drop] at hr
      obtain ⟨g1, g2⟩ := h6 (i + j) r hr
      refine ⟨g1, fun u x hu => ?_⟩
      have := g2 u x hu
      rwa [show off + (i + j) * sz = off + i * sz + j * sz by rw [Nat.add_mul]; omega] at this
/-- a read slice, from a place on -/
theorem sl_from {H R : List Ent} {sz N c i : Nat} {q : Option Addr} {α : Type} {f : α → List Value} {xs : List α} (p : Pick (sl sz (.slice q N c) (xs.map f)) H R) (hN : xs.length = N) (hi : i ≤ N) : HSub H (sl sz (.slice (subq q i c sz) (N - i) (c - i)) ((xs.drop i).map f) :: R) :=
  heap_less p ⟨rfl, fun w hw => sliceAt_from (hw.1 _ List.mem_cons_self) hN hi, fun b hb => ⟨_, List.mem_cons_self, by
    have h1 := hb.1
    have h2 := hb.2
    refine ⟨fun e => h1 ?_, ?_⟩
    · have : xs = [] := by simpa using e
      rw [this]
      simp
    · unfold subq at h2
      split at h2
      · cases q <;> exact h2
      · cases q with
        | none => cases h2
        | some a =>
          obtain ⟨b0, off, s⟩ := a
          simp only [Option.map_some, Value.ownBlock, Addr.add] at h2 ⊢
          split at h2 <;> simpa using h2⟩⟩
section
variable {P : Program} {n : Nat} {F : Frm} {H R : List Ent} {o : Oper} {x y : Operand} {z' : Value}
theorem q_slice_l {t e sz by' N c i : Nat} {agg : Bool} {q : Option Addr} {k : IntKind} {j : Int} [ht : Sli P t e] [hs : Ty P e agg sz by' z'] (ho : o.op = .slice t x (some y) none none) (hx : ev F x = some (.slice q N c)) (hy : ev F y = some (.int k j)) (hj : j = (i : Int)) (hi : i ≤ N) : Qt P n o F H (.slice (subq q i c sz) (N - i) (c - i)) := fun a w ha hw => by
  subst hj
  have he : P.elem t = e := by simp [Program.elem, ht.h]
  have hu : P.underlying t = some (.slice (P.elem t)) := by rw [he]; exact ht.h
  have h1 := run_slice_l (P := P) (w := w) (t := t) (a := q) (len := N) (cap := c) hu k (i : Int) (by omega) (by omega)
  rw [he, sizeOf_run hs, Int.toNat_natCast] at h1
  simp only [Result.andThen_ok] at h1
  simp only [execOp, ho, Option.map_some, Option.map_none, ha.eval hx, ha.eval hy, Sem.run_bind, Sem.run_pure, run_sliceAt_slice w t _ _ _ _ hu, h1, Result.andThen_ok]
  rfl
end
end Go.Proofs.YtcbpeampjhegcaaDoor.sl
