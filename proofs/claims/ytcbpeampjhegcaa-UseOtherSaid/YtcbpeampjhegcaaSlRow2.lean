/-
  The small separation logic: pieces of a row, as values; a piece of one own row copied into another. Nothing here speaks of the program.
-/
import Derived.Test.YtcbpeampjhegcaaSlRow
namespace Go.Proofs.Ytcbpeampjhegcaa.sl
open Go.RowKit kit
set_option linter.unusedVariables false
section
variable {P : Program} {Q : Post} {n : Nat} {F : Frm} {H R : List Ent} {o : Oper} {x y z zz : Operand} {v u z' : Value} {T S : TypeId}
theorem q_slice_lo {e sz by' m c i : Nat} {agg : Bool} {q : Option Addr} {k : IntKind} {j : Int} [ht : Sli P T e] [hs : Ty P e agg sz by' z'] (ho : o.op = .slice T x (some y) none none) (hx : ev F x = some (.slice q m c)) (hy : ev F y = some (.int k j)) (hj : j = (i : Int)) (hi : i ≤ m) : Qt P n o F H (sliced q i m c sz) := fun a w ha hw => by
  subst hj
  have he : P.elem T = e := by simp [Program.elem, ht.h]
  have hu : P.underlying T = some (.slice (P.elem T)) := by rw [he]; exact ht.h
  have h1 := run_slice_l (P := P) w T q m c hu k (i : Int) (by omega) (by omega)
  rw [he, sizeOf_run hs] at h1
  simp only [Result.andThen_ok, Int.toNat_natCast] at h1
  simp only [execOp, ho, Option.map_some, Option.map_none, ha.eval hx, ha.eval hy, Sem.run_bind, Sem.run_pure, run_sliceAt_slice w T _ _ _ _ hu, h1, Result.andThen_ok]
theorem q_slice_lh {e sz by' m c i h : Nat} {agg : Bool} {q : Option Addr} {k k' : IntKind} {j j' : Int} [ht : Sli P T e] [hs : Ty P e agg sz by' z'] (ho : o.op = .slice T x (some y) (some z) none) (hx : ev F x = some (.slice q m c)) (hy : ev F y = some (.int k j)) (hz : ev F z = some (.int k' j')) (hj : j = (i : Int)) (hj' : j' = (h : Int)) (hi : i ≤ h) (hh : h ≤ c) : Qt P n o F H (sliced q i h c sz) := fun a w ha hw => by
  subst hj
  subst hj'
  have he : P.elem T = e := by simp [Program.elem, ht.h]
  have hu : P.underlying T = some (.slice (P.elem T)) := by rw [he]; exact ht.h
  have h1 := run_slice_lh (P := P) w T q m c hu k k' (i : Int) (h : Int) (by omega) (by omega) (by omega)
  rw [he, sizeOf_run hs] at h1
  simp only [Result.andThen_ok, Int.toNat_natCast] at h1
  simp only [execOp, ho, Option.map_some, Option.map_none, ha.eval hx, ha.eval hy, ha.eval hz, Sem.run_bind, Sem.run_pure, run_sliceAt_slice w T _ _ _ _ hu, h1, Result.andThen_ok]
theorem q_slice3 {e sz by' m c i h mx : Nat} {agg : Bool} {q : Option Addr} {k k' k2 : IntKind} {j j' j2 : Int} [ht : Sli P T e] [hs : Ty P e agg sz by' z'] (ho : o.op = .slice T x (some y) (some z) (some zz)) (hx : ev F x = some (.slice q m c)) (hy : ev F y = some (.int k j)) (hz : ev F z = some (.int k' j')) (hzz : ev F zz = some (.int k2 j2)) (hj : j = (i : Int)) (hj' : j' = (h : Int)) (hj2 : j2 = (mx : Int)) (hi : i ≤ h) (hh : h ≤ mx) (hm : mx ≤ c) : Qt P n o F H (sliced q i h mx sz) := fun a w ha hw => by
  subst hj
  subst hj'
  subst hj2
  have he : P.elem T = e := by simp [Program.elem, ht.h]
  have hu : P.underlying T = some (.slice (P.elem T)) := by rw [he]; exact ht.h
  have h1 := run_slice_lhm (P := P) w T q m c hu k k' k2 (i : Int) (h : Int) (mx : Int) (by omega) (by omega) (by omega) (by omega)
  rw [he, sizeOf_run hs] at h1
  simp only [Result.andThen_ok, Int.toNat_natCast] at h1
  simp only [execOp, ho, Option.map_some, ha.eval hx, ha.eval hy, ha.eval hz, ha.eval hzz, Sem.run_bind, Sem.run_pure, run_sliceAt_slice w T _ _ _ _ hu, h1, Result.andThen_ok]
theorem sliced_some {g i h c sz : Nat} (hc : i < c) : sliced (some ⟨g, 0, none⟩) i h c sz = .slice (some ⟨g, i * sz, none⟩) (h - i) (c - i) := by
  unfold sliced
  rw [if_neg (by omega)]
  show Value.slice (some ((⟨g, 0, none⟩ : Addr).add (i * sz))) _ _ = _
  rw [addr_shift, Nat.zero_add]
theorem sliced_end {g h c sz : Nat} : sliced (some ⟨g, 0, none⟩) c h c sz = .slice (some ⟨g, 0, none⟩) (h - c) 0 := by
  unfold sliced
  rw [if_pos rfl, Nat.sub_self]
/-- 'copy(s[a:], t[b:])', t another own row -/
theorem opr_copy_own {T' e by' sz g o1 d1 c1 g2 o2 d2 c2 c' c k : Nat} {agg : Bool} {raw raw2 : List Value} {S : List Ent} [ht : Sli P T e] [hs : Ty P e agg sz by' z'] (ho : o.op = .call { callee := .builtin .copy, args := #[x, y], argTypes := #[T, T'] }) (hx : ev F x = some (.slice (some ⟨g, o1, none⟩) d1 c1)) (hy : ev F y = some (.slice (some ⟨g2, o2, none⟩) d2 c2))
    (p : Pick (own (.slice (some ⟨g, 0, none⟩) c c) e sz c raw) H R) (q : Pick (own (.slice (some ⟨g2, 0, none⟩) c' c') e sz c' raw2) R S) (hk : Nat.min d2 d1 = k) (hfit : o1 + k * sz ≤ c * sz) (hfit2 : o2 + k * sz ≤ raw2.length) (h1 : ∀ v ∈ (raw2.drop o2).take (k * sz), v.oneCell' = true) :
    Opr P n o F H fun r H' => r = .int .i64 (k : Int) ∧ H' = own (.slice (some ⟨g, 0, none⟩) c c) e sz c (raw.take o1 ++ (raw2.drop o2).take (k * sz) ++ raw.drop (o1 + k * sz)) :: R :=
  opr_copy_gen ho hx hy p hk (by rw [List.length_take, List.length_drop]; omega) hfit (fun w hw j v hj => by
    have hown : w.ownsRow 0 e sz (.slice (some ⟨g2, 0, none⟩) c' c') c' raw2 := hw.tail.1 _ q.mem
    have hjl := (List.getElem?_eq_some_iff.1 hj).1
    rw [List.length_take] at hjl
    rw [List.getElem?_take_of_lt (by omega), List.getElem?_drop] at hj
    have := hown.cells (g := g2) rfl _ _ hj
    rw [addr_shift] at this ⊢
    rwa [Nat.zero_add] at this) h1
/-- the library's entry slices.overlaps at two own rows -/
theorem overlaps_own {tS tR e sz g g2 o1 o2 d1 c1 d2 c2 c c' : Nat} {agg : Bool} {by' : Nat} {raw raw2 : List Value} [ht : Sli P tS e] [hs : Ty P e agg sz by' z'] {w : World} (p : Pick (own (.slice (some ⟨g, 0, none⟩) c c) e sz c raw) H R) {S2 : List Ent} (q : Pick (own (.slice (some ⟨g2, 0, none⟩) c' c') e sz c' raw2) R S2) (hw : HeapOk H w) (hc : c' * sz ≠ 0) :
    (Extern.SlicesOverlaps.overlaps #[tS, tS] #[tR] #[.slice (some ⟨g, o1, none⟩) d1 c1, .slice (some ⟨g2, o2, none⟩) d2 c2]).run P w = .ok (.bool false) w := by
  have hw' := hw.perm p.perm
  have h1 : w.ownsRow 0 e sz (.slice (some ⟨g, 0, none⟩) c c) c raw := hw'.head
  have h2 : w.ownsRow 0 e sz (.slice (some ⟨g2, 0, none⟩) c' c') c' raw2 := hw'.tail.1 _ q.mem
  obtain ⟨cur, hg, _, _, hs1, _⟩ := row_here h1
  obtain ⟨cur2, hg2, _, _, hs2, _⟩ := row_here h2
  have hne : g ≠ g2 := fun e => by
    subst e
    exact (List.pairwise_cons.1 hw'.2).1 _ q.mem (.inl rfl) g (show some g = some g from rfl) (show some g = some g from rfl)
  refine Lib.run_overlaps_apart w tS tR e ht.h sz (fun w => sizeOf_run hs w) ⟨g, o1, none⟩ ⟨g2, o2, none⟩ d1 c1 d2 c2 hne e e cur.size cur2.size ?_ ?_ (by rw [hs2]; exact hc) ?_ ?_
  · simp [World.shape?, hg]
  · simp [World.shape?, hg2]
  · simp [World.frozen?, hg]
  · simp [World.frozen?, hg]
end
end Go.Proofs.Ytcbpeampjhegcaa.sl
