/-
  imap.Fresh: the walk.
-/
import Derived.Test.YtdjnhbaipfkiaaaImapSet
namespace Go.Proofs.Ytdjnhbaipfkiaaa.imap
open Go.RowKit kit
set_option linter.unusedVariables false

theorem run_make_rowN {P : Program} (t e : TypeId) (z : Value) (sz bytes : Nat) (ht : P.underlying t = some (.slice e)) (hinfo : (P.info? e).map (fun i => (i.zero, i.size, i.bytes)) = some (some z, sz, bytes))
    (kl kc : IntKind) (n : Nat) (hbytes : bytes * n ≤ 281474976710656) (h63 : n ≤ 9223372036854775807) (w : World) :
    (Instr.makeSlice t (.int kl (n : Int)) (.int kc (n : Int))).run P w = .ok (.slice (some ⟨w.heap.size, 0, none⟩) n n) (w.alloc (.cells (madeCells z.cells (n * sz)) e)) := by
  obtain ⟨i, hi, hzz⟩ := Option.map_eq_some_iff.1 hinfo
  simp only [Prod.mk.injEq] at hzz
  obtain ⟨hz, hs, hb⟩ := hzz
  subst hs hb
  have hb' : (i.bytes : Int) * (n : Int) ≤ 281474976710656 := by
    have h : ((i.bytes * n : Nat) : Int) ≤ 281474976710656 := by omega
    rwa [Int.natCast_mul] at h
  have hr := run_make (P := P) w t e i z ht hi hz kl kc n n (by omega) (Int.le_refl _) hb' (by omega)
  simp only [Int.toNat_natCast] at hr
  exact hr
theorem infoP : (Try.prog.info? 45).map (fun i => (i.zero, i.size, i.bytes)) = some (some (.agg #[.int .i64 0, .int .i64 0]), 2, 16) := by kernel_rfl
theorem infoI : (Try.prog.info? 3).map (fun i => (i.zero, i.size, i.bytes)) = some (some (.int .i64 0), 1, 8) := by kernel_rfl

def zps : List (Int × Int) := List.replicate 48 (0, 0)
def zgs : List Int := List.replicate 48 0
theorem good0 : GoodM zps zgs := by
  refine ⟨rfl, rfl, fun i hi p g h1 h2 => ?_⟩
  unfold zps at h1
  unfold zgs at h2
  rw [List.getElem?_replicate, if_pos hi] at h1 h2
  have h3 := Option.some.inj h1
  have h4 := Option.some.inj h2
  subst h3 h4
  exact ⟨by decide, by decide, by decide⟩
theorem fresh_map {w : World} {ga gg : Nat} (ha : w.heap[ga]? = some (.cells (madeCells #[Value.int .i64 0, Value.int .i64 0] 96) 45 (0, 0))) (hg : w.heap[gg]? = some (.cells (madeCells #[Value.int .i64 0] 48) 3 (0, 0))) :
    MapAt w (.slice (some ⟨ga, 0, none⟩) 48 48) (.slice (some ⟨gg, 0, none⟩) 48 48) zps zgs := by
  refine ⟨block_slice rowP_len ha rfl (Nat.le_refl _) (by decide) ?_, block_slice rowI_len hg rfl (Nat.le_refl _) (by decide) ?_, by decide, by decide, by decide, by decide⟩
  · intro i x hx j y hy
    unfold zps at hx
    have hil := (List.getElem?_eq_some_iff.1 hx).1
    rw [List.length_replicate] at hil
    rw [List.getElem?_replicate, if_pos hil] at hx
    have h3 := Option.some.inj hx
    subst h3
    have hjl := (List.getElem?_eq_some_iff.1 hy).1
    rw [rowP_len] at hjl
    have : (madeCells #[Value.int .i64 0, Value.int .i64 0] 96)[i * 2 + j]? = some (.int .i64 0) := by
      have h9 : ∀ k : Fin 96, (madeCells #[Value.int .i64 0, Value.int .i64 0] 96)[k.val]? = some (.int .i64 0) := by
        intro k
        simp [madeCells]
        rcases Nat.mod_two_eq_zero_or_one k.val with h | h <;> simp [h]
      exact h9 ⟨i * 2 + j, by omega⟩
    rw [this]
    match j, hjl, hy with
    | 0, _, hy => simpa [rowP] using hy
    | 1, _, hy => simpa [rowP] using hy
  · intro i x hx j y hy
    unfold zgs at hx
    have hil := (List.getElem?_eq_some_iff.1 hx).1
    rw [List.length_replicate] at hil
    rw [List.getElem?_replicate, if_pos hil] at hx
    have h3 := Option.some.inj hx
    subst h3
    have hjl := (List.getElem?_eq_some_iff.1 hy).1
    rw [rowI_len] at hjl
    have hj : j = 0 := by omega
    subst hj
    have : (madeCells #[Value.int .i64 0] 48)[i]? = some (.int .i64 0) := by simp [madeCells, hil, Nat.mod_one]
    rw [show i * 1 + 0 = i from by omega, this]
    simpa [rowI] using hy

set_option maxRecDepth 100000 in
theorem fresh_any (W : World) :
    Calls Try.prog 23 #[] W fun e w' => (∃ a g, e = .returned (.agg #[a, g]) ∧ MapAt w' a g zps zgs) ∧ Below W.heap.size W w' := by
  have hm1 : ∀ w, (Instr.makeSlice 40 (.int .i64 48) (.int .i64 48)).run Try.prog w = _ := fun w => run_make_rowN 40 45 (.agg #[.int .i64 0, .int .i64 0]) 2 16 Try.underlying40 infoP .i64 .i64 48 (by omega) (by omega) w
  have hm2 : ∀ w, (Instr.makeSlice 41 (.int .i64 48) (.int .i64 48)).run Try.prog w = _ := fun w => run_make_rowN 41 3 (.int .i64 0) 1 8 Try.underlying41 infoI .i64 .i64 48 (by omega) (by omega) w
  go_enter Try.func23, Try.ntmps23
  go_wp2_with (fail)
  go_region
  · have hb : Below W.heap.size W (((W.alloc (Obj.cells #[Value.slice (some ⟨W.heap.size + 1, 0, none⟩) 48 48, Value.slice (some ⟨W.heap.size + 1 + 1, 0, none⟩) 48 48] 43)).alloc (Obj.cells (madeCells #[Value.int .i64 0, Value.int .i64 0] 96) 45)).alloc (Obj.cells (madeCells #[Value.int .i64 0] 48) 3)) := (((Below.refl W.heap.size W).alloc (Nat.le_refl _) _).alloc (by simp) _).alloc (by simp; omega) _
    have hbx : (((W.alloc (Obj.cells #[Value.slice (some ⟨W.heap.size + 1, 0, none⟩) 48 48, Value.slice (some ⟨W.heap.size + 1 + 1, 0, none⟩) 48 48] 43)).alloc (Obj.cells (madeCells #[Value.int .i64 0, Value.int .i64 0] 96) 45)).alloc (Obj.cells (madeCells #[Value.int .i64 0] 48) 3)).heap[W.heap.size]? = some (.cells #[Value.slice (some ⟨W.heap.size + 1, 0, none⟩) 48 48, Value.slice (some ⟨W.heap.size + 1 + 1, 0, none⟩) 48 48] 43 (0, 0)) := by
      rw [heap_alloc_old _ _ (by simp; omega), heap_alloc_old _ _ (by simp)]; exact heap_alloc_new _ _
    have ha : (((W.alloc (Obj.cells #[Value.slice (some ⟨W.heap.size + 1, 0, none⟩) 48 48, Value.slice (some ⟨W.heap.size + 1 + 1, 0, none⟩) 48 48] 43)).alloc (Obj.cells (madeCells #[Value.int .i64 0, Value.int .i64 0] 96) 45)).alloc (Obj.cells (madeCells #[Value.int .i64 0] 48) 3)).heap[W.heap.size + 1]? = some (Obj.cells (madeCells #[Value.int .i64 0, Value.int .i64 0] 96) 45) := by
      rw [heap_alloc_old _ _ (by simp)]
      have := heap_alloc_new (W.alloc (Obj.cells #[Value.slice (some ⟨W.heap.size + 1, 0, none⟩) 48 48, Value.slice (some ⟨W.heap.size + 1 + 1, 0, none⟩) 48 48] 43)) (Obj.cells (madeCells #[Value.int .i64 0, Value.int .i64 0] 96) 45)
      simpa using this
    have hg : (((W.alloc (Obj.cells #[Value.slice (some ⟨W.heap.size + 1, 0, none⟩) 48 48, Value.slice (some ⟨W.heap.size + 1 + 1, 0, none⟩) 48 48] 43)).alloc (Obj.cells (madeCells #[Value.int .i64 0, Value.int .i64 0] 96) 45)).alloc (Obj.cells (madeCells #[Value.int .i64 0] 48) 3)).heap[W.heap.size + 1 + 1]? = some (Obj.cells (madeCells #[Value.int .i64 0] 48) 3) := by
      have := heap_alloc_new ((W.alloc (Obj.cells #[Value.slice (some ⟨W.heap.size + 1, 0, none⟩) 48 48, Value.slice (some ⟨W.heap.size + 1 + 1, 0, none⟩) 48 48] 43)).alloc (Obj.cells (madeCells #[Value.int .i64 0, Value.int .i64 0] 96) 45)) (Obj.cells (madeCells #[Value.int .i64 0] 48) 3)
      simpa using this
    have hmap := fresh_map ha hg
    generalize (((W.alloc (Obj.cells #[Value.slice (some ⟨W.heap.size + 1, 0, none⟩) 48 48, Value.slice (some ⟨W.heap.size + 1 + 1, 0, none⟩) 48 48] 43)).alloc (Obj.cells (madeCells #[Value.int .i64 0, Value.int .i64 0] 96) 45)).alloc (Obj.cells (madeCells #[Value.int .i64 0] 48) 3)) = w9 at hb hbx hmap ⊢
    clear ha hg hm1 hm2
    go_wp2_with (fail)
    refine bodyPost_ret_by (v := .agg #[Value.slice (some ⟨W.heap.size + 1, 0, none⟩) 48 48, Value.slice (some ⟨W.heap.size + 1 + 1, 0, none⟩) 48 48]) (results_cell_row (ty := 43) rfl _ _ W.heap.size _ #[Value.slice (some ⟨W.heap.size + 1, 0, none⟩) 48 48, Value.slice (some ⟨W.heap.size + 1 + 1, 0, none⟩) 48 48] _ _ rfl (show w9.drew.heap[W.heap.size]? = _ from hbx) Try.underlying43 rfl size43) rfl ⟨⟨_, _, rfl, hmap.below (Below.refl _ w9).drew⟩, hb.drew⟩
  · have hb : Below W.heap.size W (((W.alloc (Obj.cells #[Value.slice (some ⟨W.heap.size + 1 + 1, 0, none⟩) 48 48, Value.slice (some ⟨W.heap.size + 1, 0, none⟩) 48 48] 43)).alloc (Obj.cells (madeCells #[Value.int .i64 0] 48) 3)).alloc (Obj.cells (madeCells #[Value.int .i64 0, Value.int .i64 0] 96) 45)) := (((Below.refl W.heap.size W).alloc (Nat.le_refl _) _).alloc (by simp) _).alloc (by simp; omega) _
    have hbx : (((W.alloc (Obj.cells #[Value.slice (some ⟨W.heap.size + 1 + 1, 0, none⟩) 48 48, Value.slice (some ⟨W.heap.size + 1, 0, none⟩) 48 48] 43)).alloc (Obj.cells (madeCells #[Value.int .i64 0] 48) 3)).alloc (Obj.cells (madeCells #[Value.int .i64 0, Value.int .i64 0] 96) 45)).heap[W.heap.size]? = some (.cells #[Value.slice (some ⟨W.heap.size + 1 + 1, 0, none⟩) 48 48, Value.slice (some ⟨W.heap.size + 1, 0, none⟩) 48 48] 43 (0, 0)) := by
      rw [heap_alloc_old _ _ (by simp; omega), heap_alloc_old _ _ (by simp)]; exact heap_alloc_new _ _
    have hg : (((W.alloc (Obj.cells #[Value.slice (some ⟨W.heap.size + 1 + 1, 0, none⟩) 48 48, Value.slice (some ⟨W.heap.size + 1, 0, none⟩) 48 48] 43)).alloc (Obj.cells (madeCells #[Value.int .i64 0] 48) 3)).alloc (Obj.cells (madeCells #[Value.int .i64 0, Value.int .i64 0] 96) 45)).heap[W.heap.size + 1]? = some (Obj.cells (madeCells #[Value.int .i64 0] 48) 3) := by
      rw [heap_alloc_old _ _ (by simp)]
      have := heap_alloc_new (W.alloc (Obj.cells #[Value.slice (some ⟨W.heap.size + 1 + 1, 0, none⟩) 48 48, Value.slice (some ⟨W.heap.size + 1, 0, none⟩) 48 48] 43)) (Obj.cells (madeCells #[Value.int .i64 0] 48) 3)
      simpa using this
    have ha : (((W.alloc (Obj.cells #[Value.slice (some ⟨W.heap.size + 1 + 1, 0, none⟩) 48 48, Value.slice (some ⟨W.heap.size + 1, 0, none⟩) 48 48] 43)).alloc (Obj.cells (madeCells #[Value.int .i64 0] 48) 3)).alloc (Obj.cells (madeCells #[Value.int .i64 0, Value.int .i64 0] 96) 45)).heap[W.heap.size + 1 + 1]? = some (Obj.cells (madeCells #[Value.int .i64 0, Value.int .i64 0] 96) 45) := by
      have := heap_alloc_new ((W.alloc (Obj.cells #[Value.slice (some ⟨W.heap.size + 1 + 1, 0, none⟩) 48 48, Value.slice (some ⟨W.heap.size + 1, 0, none⟩) 48 48] 43)).alloc (Obj.cells (madeCells #[Value.int .i64 0] 48) 3)) (Obj.cells (madeCells #[Value.int .i64 0, Value.int .i64 0] 96) 45)
      simpa using this
    have hmap := fresh_map ha hg
    generalize (((W.alloc (Obj.cells #[Value.slice (some ⟨W.heap.size + 1 + 1, 0, none⟩) 48 48, Value.slice (some ⟨W.heap.size + 1, 0, none⟩) 48 48] 43)).alloc (Obj.cells (madeCells #[Value.int .i64 0] 48) 3)).alloc (Obj.cells (madeCells #[Value.int .i64 0, Value.int .i64 0] 96) 45)) = w9 at hb hbx hmap ⊢
    clear ha hg hm1 hm2
    go_wp2_with (fail)
    refine bodyPost_ret_by (v := .agg #[Value.slice (some ⟨W.heap.size + 1 + 1, 0, none⟩) 48 48, Value.slice (some ⟨W.heap.size + 1, 0, none⟩) 48 48]) (results_cell_row (ty := 43) rfl _ _ W.heap.size _ #[Value.slice (some ⟨W.heap.size + 1 + 1, 0, none⟩) 48 48, Value.slice (some ⟨W.heap.size + 1, 0, none⟩) 48 48] _ _ rfl (show w9.drew.heap[W.heap.size]? = _ from hbx) Try.underlying43 rfl size43) rfl ⟨⟨_, _, rfl, hmap.below (Below.refl _ w9).drew⟩, hb.drew⟩
end Go.Proofs.Ytdjnhbaipfkiaaa.imap
