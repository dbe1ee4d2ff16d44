/-
  The small separation logic: many slices that are only read, as one entry. Nothing here speaks of the program.
-/
import Derived.Test.YtcbpeampjhegcaaDoorSlMapI
namespace Go.Proofs.YtcbpeampjhegcaaDoor.sl
open Go.RowKit kit
set_option linter.unusedVariables false
abbrev Lots := List (Value × List (List Value))
def many (sz : Nat) (l : Lots) : Ent where
  excl := false
  foot b := ∃ p ∈ l, (sl sz p.1 p.2).foot b
  holds w := ∀ p ∈ l, (sl sz p.1 p.2).holds w
  lt h hk := by
    obtain ⟨p, hp, hb⟩ := hk
    exact (sl sz p.1 p.2).lt (h p hp) hb
  keep h h1 h2 h3 h4 h5 := fun p hp => (sl sz p.1 p.2).keep (h p hp) h1 h2 h3 h4 fun b hb => h5 b ⟨p, hp, hb⟩
theorem view_many {S R : List Ent} {sz : Nat} {l : Lots} {v : Value} {rows : List (List Value)} (p : Pick (many sz l) S R) (h : (v, rows) ∈ l) : View S (sl sz v rows) :=
  ⟨rfl, fun w hw => hw.1 _ p.mem _ h, fun b hb => ⟨_, p.mem, (v, rows), h, hb⟩⟩
theorem many_sub {S R : List Ent} {sz : Nat} {l l' : Lots} (p : Pick (many sz l) S R) (h : ∀ x ∈ l', x ∈ l) : View S (many sz l') :=
  ⟨rfl, fun w hw x hx => hw.1 _ p.mem x (h x hx), fun b hb => by
    obtain ⟨x, hx, hb⟩ := hb
    exact ⟨_, p.mem, x, h x hx, hb⟩⟩
/-- a slice of the many, beside them -/
theorem many_out {H R : List Ent} {sz : Nat} {l : Lots} {v : Value} {rows : List (List Value)} (p : Pick (many sz l) H R) (h : (v, rows) ∈ l) : HSub H (sl sz v rows :: H) := fun w hw =>
  ⟨fun e he => by
    rcases List.mem_cons.1 he with rfl | he
    · exact hw.1 _ p.mem _ h
    · exact hw.1 e he, List.pairwise_cons.2 ⟨fun f hf hx b hb1 hb2 => by
      rcases hx with hx | hx
      · cases hx
      · have h1 := hw.perm p.perm
        have h2 := p.perm.mem_iff.1 hf
        rcases List.mem_cons.1 h2 with rfl | h2
        · cases hx
        · exact (List.pairwise_cons.1 h1.2).1 f h2 (.inr hx) b ⟨_, h, hb1⟩ hb2, hw.2⟩⟩
/-- rows of one's own that are lent as many -/
theorem view_bundle {S R : List Ent} {sz e : Nat} {β α : Type} {tab : List β} {rw : β → Ent} {vv : β → Value} {xs : β → List α} {f : α → List Value} (p : Pick (bundle (tab.map rw)) S R) (hr : ∀ r, rw r = own (vv r) e sz (xs r).length (flat f (xs r))) (hf : ∀ y, (f y).length = sz) (l : List β) (hl : ∀ r ∈ l, r ∈ tab) : View S (many sz (l.map fun r => (vv r, (xs r).map f))) :=
  ⟨rfl, fun w hw x hx => by
    obtain ⟨r, hr1, rfl⟩ := List.mem_map.1 hx
    have h1 : HeapOk (tab.map rw) w := (hw.1 _ p.mem).1
    have h2 := h1.1 (rw r) (List.mem_map_of_mem (hl r hr1))
    rw [hr] at h2
    exact own_sliceN hf rfl h2, fun b hb => by
    obtain ⟨x, hx, hb⟩ := hb
    obtain ⟨r, hr1, rfl⟩ := List.mem_map.1 hx
    exact ⟨_, p.mem, rw r, List.mem_map_of_mem (hl r hr1), by rw [hr]; exact hb.2⟩⟩
/-- the front of one's own row, its room cut -/
theorem view_cut {S R : List Ent} {e sz m k c : Nat} {α : Type} {f : α → List Value} {ys : List α} {q : Option Addr} (p : Pick (own (.slice q m c) e sz m (flat f ys)) S R) (hf : ∀ y, (f y).length = sz) (hm : m = ys.length) (hk : k ≤ m) : View S (sl sz (.slice q k k) ((ys.take k).map f)) :=
  ⟨rfl, fun w hw => by
    have h1 : SliceAt w sz (.slice q k c) ((ys.take k).map f) := sl_part (own_sliceN hf hm (hw.1 _ p.mem)) (by omega)
    rcases h1 with ⟨h0, h2⟩ | ⟨b, off, cap, hv, h3, h4, h5, h6, h7⟩
    · refine .inl ⟨h0, ?_⟩
      have hk0 : k = 0 := by
        have := congrArg List.length h0
        rw [List.length_map, List.length_take, List.length_nil] at this
        omega
      subst hk0
      rcases h2 with h2 | ⟨a, cap, h2⟩
      · cases h2; exact .inl rfl
      · cases h2; exact .inr ⟨_, _, rfl⟩
    · have hlen : ((ys.take k).map f).length = k := by simp; omega
      rw [hlen] at hv
      cases hv
      exact .inr ⟨b, off, k, by rw [hlen], by rw [hlen]; exact Nat.le_refl _, by rw [hlen] at h3; omega, h5, h6, h7⟩, fun b hb => ⟨_, p.mem, by
    have h2 := hb.2
    cases q <;> exact h2⟩⟩
/-- the front of one's own row -/
theorem view_head {S R : List Ent} {e sz m k c : Nat} {α : Type} {f : α → List Value} {ys : List α} {q : Option Addr} (p : Pick (own (.slice q m c) e sz m (flat f ys)) S R) (hf : ∀ y, (f y).length = sz) (hm : m = ys.length) (hk : k ≤ m) : View S (sl sz (.slice q k c) ((ys.take k).map f)) :=
  ⟨rfl, fun w hw => sl_part (own_sliceN hf hm (hw.1 _ p.mem)) (by omega), fun b hb => ⟨_, p.mem, by
    have h2 := hb.2
    cases q <;> exact h2⟩⟩
end Go.Proofs.YtcbpeampjhegcaaDoor.sl
