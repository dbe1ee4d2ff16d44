/-
  imap.Take, Fresh, like, Set, Cut: the walks.
-/
import Derived.Test.YtdjnhbaipfkiaaaImapCheck
import Derived.Test.YtdjnhbaipfkiaaaRow2
import Derived.Deep.OwnRows
namespace Go.Proofs.Ytdjnhbaipfkiaaa.imap
open Go.RowKit kit
set_option linter.unusedVariables false

/-- the number i is free -/
def FreeAt (ps : List (Int × Int)) (gs : List Int) (i : Nat) : Prop := ∃ p g, ps[i]? = some p ∧ gs[i]? = some g ∧ p.1 = 0 ∧ g < 2147483647
def TakeSays (ps : List (Int × Int)) (gs : List Int) (e : Ending) : Prop :=
  (¬ GoodM ps gs ∧ e = .returned (.tuple #[.int .i64 0, .int .i64 4])) ∨
  (GoodM ps gs ∧ ∃ i : Nat, 1 ≤ i ∧ i < 48 ∧ FreeAt ps gs i ∧ (∀ j, 1 ≤ j → j < i → ¬ FreeAt ps gs j) ∧ e = .returned (.tuple #[.int .i64 i, .int .i64 0])) ∨
  (GoodM ps gs ∧ (∀ j, 1 ≤ j → j < 48 → ¬ FreeAt ps gs j) ∧ e = .returned (.tuple #[.int .i64 0, .int .i64 10]))

set_option maxHeartbeats 1000000 in
set_option maxRecDepth 100000 in
theorem take_any (a g : Value) (ps : List (Int × Int)) (gs : List Int) (W : World) (hm : MapAt W a g ps gs) :
    Calls Try.prog 22 #[.agg #[a, g]] W fun e w' => TakeSays ps gs e ∧ Below W.heap.size W w' := by
  obtain ⟨qa, qg, ca, cg, ba, oa, bg, og, hc⟩ := hm.cells
  obtain ⟨rfl, rfl, va, vg, c0, c1⟩ := hc
  have HA := Lib.hid va
  have HG := Lib.hid vg
  have HC := Lib.hid c0
  have HD := Lib.hid c1
  clear va vg c0 c1
  go_enter Try.func22, Try.ntmps22
  go_wp2_with (fail)
  have hb0 := (Below.refl W.heap.size W).alloc (Nat.le_refl _) (Obj.cells #[Value.slice qa ps.length ca, Value.slice qg gs.length cg] 43)
  have hbx0 : (W.alloc (Obj.cells #[Value.slice qa ps.length ca, Value.slice qg gs.length cg] 43)).heap[W.heap.size]? = some (.cells #[Value.slice qa ps.length ca, Value.slice qg gs.length cg] 43 (0, 0)) := heap_alloc_new _ _
  refine (check_any _ _ ps gs _ (hm.below hb0)).mono ?_
  rintro e W1 ⟨⟨hgood, rfl⟩ | ⟨hbad, rfl⟩, hb1⟩
  · have e1 := hgood.1
    have e2 := hgood.2.1
    have hb2 : Below W.heap.size W W1 := hb0.trans (hb1.mono (by simp))
    have hbx1 : W1.heap[W.heap.size]? = some (.cells #[Value.slice qa ps.length ca, Value.slice qg gs.length cg] 43 (0, 0)) := (hb1.block _ (by simp)).trans hbx0
    have x0 : W1.cell? ⟨W.heap.size, 0, none⟩ = some (Value.slice qa ps.length ca) := by rw [cell_of_row _ _ _ _ _ _ hbx1]; rfl
    have x1 : W1.cell? ⟨W.heap.size, 1, none⟩ = some (Value.slice qg gs.length cg) := by rw [cell_of_row _ _ _ _ _ _ hbx1]; rfl
    rw [e1] at x0
    rw [e2] at x1
    have E1 := Lib.hid e1
    have E2 := Lib.hid e2
    clear hb0 hbx0 hb1 hbx1 e1 e2
    go_wp2_with (fail)
    go_loopw [5] (fun y wr => ∃ k : Nat, 1 ≤ k ∧ k ≤ 48 ∧ y = .int .i64 k ∧ Hid (∀ j, 1 ≤ j → j < k → ¬ FreeAt ps gs j) ∧ W1 = wr) (fun y _ => 48 - (intOf y).toNat)
    case atStart => exact ⟨1, by omega, by omega, rfl, fun j h1 h2 => by omega, rfl⟩
    case round =>
      obtain ⟨k, hk1, hk, rfl, hnf, rfl⟩ := hrel
      by_cases hlt : k < 48
      · obtain ⟨rfl, hba⟩ := HA.out k (by rw [E1.out]; exact hlt)
        obtain ⟨rfl, hbg⟩ := HG.out k (by rw [E2.out]; exact hlt)
        obtain ⟨⟨c, n⟩, hp⟩ : ∃ p, ps[k]? = some p := ⟨_, List.getElem?_eq_getElem (by rw [E1.out]; exact hlt)⟩
        obtain ⟨z, hz⟩ : ∃ z, gs[k]? = some z := ⟨_, List.getElem?_eq_getElem (by rw [E2.out]; exact hlt)⟩
        have d0 : W1.cell? ⟨ba, oa + k * 2, none⟩ = some (.int .i64 c) := (hb2.cell (p := ⟨ba, oa + k * 2, none⟩) hba).trans (HC.out k _ hp).1
        have d2 : W1.cell? ⟨bg, og + k, none⟩ = some (.int .i64 z) := (hb2.cell (p := ⟨bg, og + k, none⟩) hbg).trans (HD.out k z hz)
        have hltI : (k : Int) < 48 := by omega
        have HP := Lib.hid hp
        have HZ := Lib.hid hz
        have hfr : FreeAt ps gs k ↔ c = 0 ∧ z < 2147483647 := by
          constructor
          · rintro ⟨p, g, h1, h2, h3, h4⟩
            rw [hp] at h1
            rw [hz] at h2
            have h5 := Option.some.inj h1
            have h6 := Option.some.inj h2
            subst h5 h6
            exact ⟨h3, h4⟩
          · rintro ⟨h1, h2⟩
            exact ⟨_, _, hp, hz, h1, h2⟩
        have HF := Lib.hid hfr
        clear hp hz hfr
        by_cases hc0 : c = 0
        · subst hc0
          by_cases hz0 : z < 2147483647
          · have hfree : FreeAt ps gs k := HF.out.2 ⟨rfl, hz0⟩
            go_wp2_with (fail)
            go_ret2
            exact ⟨.inr (.inl ⟨hgood, k, hk1, hlt, hfree, hnf.out, rfl⟩), hb2⟩
          · have hnext : Hid (∀ j, 1 ≤ j → j < k + 1 → ¬ FreeAt ps gs j) := fun j h1 h2 h3 => by
              by_cases hjk : j < k
              · exact hnf.out j h1 hjk h3
              · have : j = k := by omega
                subst this
                exact hz0 (HF.out.1 h3).2
            go_wp2_with (fail)
            exact ⟨⟨k + 1, by omega, by omega, rfl, hnext, trivial⟩, by show 48 - (((k : Int) + 1).toNat) < 48 - ((k : Int).toNat); omega⟩
        · have hcb : (c == 0) = false := by simpa using hc0
          have hnext : Hid (∀ j, 1 ≤ j → j < k + 1 → ¬ FreeAt ps gs j) := fun j h1 h2 h3 => by
            by_cases hjk : j < k
            · exact hnf.out j h1 hjk h3
            · have : j = k := by omega
              subst this
              exact hc0 (HF.out.1 h3).1
          go_wp2_with (fail)
          exact ⟨⟨k + 1, by omega, by omega, rfl, hnext, trivial⟩, by show 48 - (((k : Int) + 1).toNat) < 48 - ((k : Int).toNat); omega⟩
      · have hke : k = 48 := by omega
        subst hke
        have hno := hnf.out
        go_wp2_with (fail)
        go_ret2
        exact ⟨.inr (.inr ⟨hgood, hno, rfl⟩), hb2⟩
  · have hb2 : Below W.heap.size W W1 := hb0.trans (hb1.mono (by simp))
    go_wp2_with (fail)
    go_ret2
    exact ⟨.inl ⟨hbad, rfl⟩, hb2⟩

theorem tP : SliceTy Try.prog 40 45 2 16 (.agg #[.int .i64 0, .int .i64 0]) := sliceTy_mk Try.underlying40 (by kernel_rfl) rfl (by decide)
theorem tI : SliceTy Try.prog 41 3 1 8 (.int .i64 0) := sliceTy_mk Try.underlying41 (by kernel_rfl) rfl (by decide)
theorem rowP_len : ∀ y, (rowP y).length = 2 := fun _ => rfl
theorem rowI_len : ∀ y, (rowI y).length = 1 := fun _ => rfl
theorem rowP_one : ∀ y, ∀ u ∈ rowP y, u.oneCell' = true := by
  intro y u hu
  simp [rowP] at hu
  rcases hu with rfl | rfl <;> rfl
theorem rowI_one : ∀ y, ∀ u ∈ rowI y, u.oneCell' = true := by
  intro y u hu
  simp [rowI] at hu
  subst hu
  rfl

theorem size43 : (Try.prog.info? 43).map (·.size) = some 2 := by kernel_rfl

set_option maxHeartbeats 1000000 in
set_option maxRecDepth 100000 in
theorem like_any (a g : Value) (ps : List (Int × Int)) (gs : List Int) (W : World) (hm : MapAt W a g ps gs) (hp : (ps.length + 1) * 16 ≤ 140737488355328) (hq : (gs.length + 1) * 8 ≤ 140737488355328) :
    Calls Try.prog 54 #[.agg #[a, g]] W fun e w' => (∃ a' g', e = .returned (.agg #[a', g']) ∧ w'.ownsRow W.heap.size 45 2 a' ps.length (flat rowP ps) ∧ w'.ownsRow W.heap.size 3 1 g' gs.length (flat rowI gs)) ∧ Below W.heap.size W w' := by
  obtain ⟨qa, qg, ca, cg, ba, oa, bg, og, hc⟩ := hm.cells
  obtain ⟨rfl, rfl, _, _, _, _⟩ := hc
  go_enter Try.func54, Try.ntmps54
  go_wp2_with (fail)
  have hb0 := ((Below.refl W.heap.size W).alloc (Nat.le_refl _) (Obj.cells #[Value.slice qa ps.length ca, Value.slice qg gs.length cg] 43)).alloc (by simp) (Obj.cells #[Value.slice none 0 0, Value.slice none 0 0] 43)
  have hx0 : ((W.alloc (Obj.cells #[Value.slice qa ps.length ca, Value.slice qg gs.length cg] 43)).alloc (Obj.cells #[Value.slice none 0 0, Value.slice none 0 0] 43)).heap[W.heap.size]? = some (.cells #[Value.slice qa ps.length ca, Value.slice qg gs.length cg] 43 (0, 0)) := by
    rw [heap_alloc_old _ _ (by simp)]; exact heap_alloc_new _ _
  have hx1 : ((W.alloc (Obj.cells #[Value.slice qa ps.length ca, Value.slice qg gs.length cg] 43)).alloc (Obj.cells #[Value.slice none 0 0, Value.slice none 0 0] 43)).heap[W.heap.size + 1]? = some (.cells #[Value.slice none 0 0, Value.slice none 0 0] 43 (0, 0)) := by
    have := heap_alloc_new (W.alloc (Obj.cells #[Value.slice qa ps.length ca, Value.slice qg gs.length cg] 43)) (Obj.cells #[Value.slice none 0 0, Value.slice none 0 0] 43)
    simpa using this
  generalize (W.alloc (Obj.cells #[Value.slice qa ps.length ca, Value.slice qg gs.length cg] 43)).alloc (Obj.cells #[Value.slice none 0 0, Value.slice none 0 0] 43) = wA at hb0 hx0 hx1 ⊢
  obtain ⟨B, hB⟩ : ∃ B, W.heap.size = B := ⟨_, rfl⟩
  rw [hB] at hx0 hx1 ⊢
  have hBl : W.heap.size ≤ B := by omega
  clear hB
  have hA : SliceAt wA 2 (.slice qa ps.length ca) (ps.map rowP) := hm.ha.below (Nat.le_refl _) hb0
  have hG : SliceAt wA 1 (.slice qg gs.length cg) (gs.map rowI) := hm.hg.below (Nat.le_refl _) hb0
  have hszA := hb0.size
  have hlA := (Array.getElem?_eq_some_iff.1 hx0).1
  have hlA1 := (Array.getElem?_eq_some_iff.1 hx1).1
  have hS : ∀ w', wA.grownBy w' none → w'.cell? ⟨B, 0, none⟩ = some (Value.slice qa ps.length ca) ∧ w'.cell? ⟨B, 1, none⟩ = some (Value.slice qg gs.length cg) := fun w' h => by
    have h9 : w'.heap[B]? = _ := (h.block B hlA (by simp)).trans hx0
    exact ⟨by rw [cell_of_row _ _ _ _ _ _ h9]; rfl, by rw [cell_of_row _ _ _ _ _ _ h9]; rfl⟩
  have hR : ∀ w', wA.grownBy w' none → w'.cell? ⟨B + 1, 0, none⟩ = some (Value.slice none 0 0) ∧ w'.cell? ⟨B + 1, 1, none⟩ = some (Value.slice none 0 0) ∧ w'.frozen? ⟨B + 1, 0, none⟩ = false ∧ w'.frozen? ⟨B + 1, 1, none⟩ = false := fun w' h => by
    have h9 : w'.heap[B + 1]? = _ := (h.block (B + 1) hlA1 (by simp)).trans hx1
    exact ⟨by rw [cell_of_row _ _ _ _ _ _ h9]; rfl, by rw [cell_of_row _ _ _ _ _ _ h9]; rfl, frozen_of_row _ _ _ _ _ h9, frozen_of_row _ _ _ _ _ h9⟩
  have hga := fun (w' : World) (h : wA.grownBy w' none) => SliceAt.below hA (Nat.le_refl _) ⟨h.os, h.tape, h.output, h.size, fun k hk => h.block k hk (by simp)⟩
  have hgg := fun (w' : World) (h : wA.grownBy w' none) => SliceAt.below hG (Nat.le_refl _) ⟨h.os, h.tape, h.output, h.size, fun k hk => h.block k hk (by simp)⟩
  have s0 := hS wA (grown_refl _ _)
  obtain ⟨s00, s01⟩ := s0
  go_region_held3 (fun w' => w'.cell? ⟨B, 0, none⟩ = some (Value.slice qa ps.length ca) ∧ w'.cell? ⟨B, 1, none⟩ = some (Value.slice qg gs.length cg))
    (first | (refine hS _ ?_; focus ((repeat (first | exact grown_refl _ _ | exact hgr2 | exact hgr1 | refine grown_al ?_ _ | refine grown_drew ?_)); done)) | go_keep)
    (first
      | (refine step_appNil tP (by rfl) _ _ (by rfl) rowP rowP_len rowP_one _ ps (by rfl) (by rfl) (hga _ (by repeat (first | exact grown_refl _ _ | refine grown_al ?_ _ | refine grown_drew ?_))) (by omega) (by unfold maxLen; omega) (below_ext hb0 (by repeat (first | exact grown_refl _ _ | refine grown_al ?_ _ | refine grown_drew ?_))) (by simp; omega) ?_
         intro q1 cap1 w1 hown1 hgr1' hbel1 hsz1
         have hgr1 : wA.grownBy w1 none := grown_trans (by repeat (first | exact grown_refl _ _ | refine grown_al ?_ _ | refine grown_drew ?_)) hgr1')
      | (refine step_appNil tI (by rfl) _ _ (by rfl) rowI rowI_len rowI_one _ gs (by rfl) (by rfl) (hgg _ (by repeat (first | exact hgr1 | refine grown_al ?_ _ | refine grown_drew ?_))) (by omega) (by unfold maxLen; omega) (below_ext hbel1 (by repeat (first | exact grown_refl _ _ | refine grown_al ?_ _ | refine grown_drew ?_))) (Nat.le_trans hsz1 (by simp)) ?_
         intro q2 cap2 w2 hown2 hgr2' hbel2 hsz2
         have hgr2 : wA.grownBy w2 none := grown_trans hgr1 (grown_trans (by repeat (first | exact grown_refl _ _ | refine grown_al ?_ _ | refine grown_drew ?_)) hgr2')
         have hown1' := own_extN hown1 (grown_trans (w := w1) (by repeat (first | exact grown_refl _ _ | refine grown_al ?_ _ | refine grown_drew ?_)) hgr2')
         have hr2 := hR w2 hgr2
         obtain ⟨r0, r1, r2, r3⟩ := hr2))
  have hbk2 : w2.heap[B + 1]? = some (.cells #[Value.slice none 0 0, Value.slice none 0 0] 43 (0, 0)) := (hgr2.block (B + 1) hlA1 (by simp)).trans hx1
  have hbk3 := heap_setCell_same _ _ 1 _ _ (Value.slice q2 gs.length cap2) (heap_setCell_same _ _ 0 _ _ (Value.slice q1 ps.length cap1) hbk2)
  have ho1 := own_monoN (C := W.heap.size) (own_set (j := 1) (u := Value.slice q2 gs.length cap2) (own_set (j := 0) (u := Value.slice q1 ps.length cap1) hown1' (show B + 1 < _ from hlA1)) hlA1) hszA
  have ho2 := own_monoN (C := W.heap.size) (own_set (j := 1) (u := Value.slice q2 gs.length cap2) (own_set (j := 0) (u := Value.slice q1 ps.length cap1) hown2 (show B + 1 < _ from Nat.lt_of_lt_of_le hlA1 hgr1.size)) (Nat.lt_of_lt_of_le hlA1 hgr1.size)) hsz1
  have hb9 := (hbel2.setCell (p := ⟨B + 1, 0, none⟩) (by simp; omega) (Value.slice q1 ps.length cap1)).setCell (p := ⟨B + 1, 1, none⟩) (by simp; omega) (Value.slice q2 gs.length cap2)
  generalize (w2.setCell ⟨B + 1, 0, none⟩ (Value.slice q1 ps.length cap1)).setCell ⟨B + 1, 1, none⟩ (Value.slice q2 gs.length cap2) = w9 at hbk3 ho1 ho2 hb9 ⊢
  clear hS hR hga hgg hown1 hown2 hown1' hgr1 hgr1' hgr2 hgr2' hbk2
  have hu43 := Try.underlying43
  go_wp2_with (fail)
  refine bodyPost_ret_by (v := .agg #[Value.slice q1 ps.length cap1, Value.slice q2 gs.length cap2]) (results_cell_row (ty := 43) rfl _ _ (B + 1) _ #[Value.slice q1 ps.length cap1, Value.slice q2 gs.length cap2] _ _ rfl hbk3 hu43 rfl size43) rfl ⟨⟨_, _, rfl, ho1, ho2⟩, hb9⟩
end Go.Proofs.Ytdjnhbaipfkiaaa.imap
