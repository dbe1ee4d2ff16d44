/-
  imap.Check: the walk.
-/
import Derived.Test.YtkkgmgffkjeklaaRight
namespace Go.Proofs.Ytkkgmgffkjeklaa.imap
open Go.RowKit kit
set_option linter.unusedVariables false

def rowI (w : Int) : List Value := [.int .i64 w]
def okAt (ps : List (Int × Int)) (gs : List Int) (i : Nat) : Prop := ∀ p g, ps[i]? = some p → gs[i]? = some g → Okay p ∧ 0 ≤ g ∧ g ≤ 2147483647
/-- a map that may stand -/
def GoodM (ps : List (Int × Int)) (gs : List Int) : Prop := ps.length = 48 ∧ gs.length = 48 ∧ ∀ i, i < 48 → okAt ps gs i

/-- how a map reads -/
structure MapAt (W : World) (a g : Value) (ps : List (Int × Int)) (gs : List Int) : Prop where
  ha : SliceAt W 2 a (ps.map rowP)
  hg : SliceAt W 1 g (gs.map rowI)
  ga : ∀ p ∈ ps, (Lit.int .i64 p.1).wf = true ∧ (Lit.int .i64 p.2).wf = true
  gg : ∀ z ∈ gs, (Lit.int .i64 z).wf = true
  la : ps.length ≤ 1000000000000000
  lg : gs.length ≤ 1000000000000000
theorem MapAt.below {W w : World} {a g : Value} {ps : List (Int × Int)} {gs : List Int} (h : MapAt W a g ps gs) (hb : Below W.heap.size W w) : MapAt w a g ps gs :=
  ⟨h.ha.below (Nat.le_refl _) hb, h.hg.below (Nat.le_refl _) hb, h.ga, h.gg, h.la, h.lg⟩

/-- the cells of a map -/
structure Cells (W : World) (a g : Value) (ps : List (Int × Int)) (gs : List Int) (qa qg : Option Addr) (ca cg ba oa bg og : Nat) : Prop where
  ea : a = .slice qa ps.length ca
  eg : g = .slice qg gs.length cg
  va : ∀ k, k < ps.length → qa = some ⟨ba, oa, none⟩ ∧ ba < W.heap.size
  vg : ∀ k, k < gs.length → qg = some ⟨bg, og, none⟩ ∧ bg < W.heap.size
  c0 : ∀ k p, ps[k]? = some p → W.cell? ⟨ba, oa + k * 2, none⟩ = some (.int .i64 p.1) ∧ W.cell? ⟨ba, oa + k * 2 + 1, none⟩ = some (.int .i64 p.2)
  c1 : ∀ k z, gs[k]? = some z → W.cell? ⟨bg, og + k, none⟩ = some (.int .i64 z)
theorem MapAt.cells {W : World} {a g : Value} {ps : List (Int × Int)} {gs : List Int} (h : MapAt W a g ps gs) : ∃ qa qg ca cg ba oa bg og, Cells W a g ps gs qa qg ca cg ba oa bg og := by
  obtain ⟨qa, ca, ba, oa, rfl, hqa, hca⟩ := h.ha.view
  obtain ⟨qg, cg, bg, og, rfl, hqg, hcg⟩ := h.hg.view
  refine ⟨qa, qg, ca, cg, ba, oa, bg, og, by simp, by simp, by simpa using hqa, by simpa using hqg, fun k p hp => ?_, fun k z hz => ?_⟩
  · have h := hca k (rowP p) (by rw [List.getElem?_map, hp]; rfl)
    exact ⟨h 0 _ rfl, h 1 _ rfl⟩
  · have h := hcg k (rowI z) (by rw [List.getElem?_map, hz]; rfl) 0 _ rfl
    simpa [Nat.mul_one] using h

set_option maxHeartbeats 1000000 in
set_option maxRecDepth 100000 in
theorem check_any (a g : Value) (ps : List (Int × Int)) (gs : List Int) (W : World) (hm : MapAt W a g ps gs) :
    Calls Try.prog 49 #[.agg #[a, g]] W fun e w' => (GoodM ps gs ∧ e = .returned (.int .i64 0) ∨ ¬ GoodM ps gs ∧ e = .returned (.int .i64 4)) ∧ Below W.heap.size W w' := by
  obtain ⟨qa, qg, ca, cg, ba, oa, bg, og, hc⟩ := hm.cells
  obtain ⟨rfl, rfl, va, vg, c0, c1⟩ := hc
  have HA := Lib.hid va
  have HG := Lib.hid vg
  have HC := Lib.hid c0
  have HD := Lib.hid c1
  have hla := hm.la
  have hlg := hm.lg
  have hga := hm.ga
  have hgg := hm.gg
  clear va vg c0 c1 hm
  by_cases l1 : (ps.length : Int) = 48
  · by_cases l2 : (gs.length : Int) = 48
    · have e1 : ps.length = 48 := by omega
      have e2 : gs.length = 48 := by omega
      rw [e1, e2]
      have E1 := Lib.hid e1
      have E2 := Lib.hid e2
      clear l1 l2 e1 e2 hla hlg
      go_enter Try.func49, Try.ntmps49
      go_wp2_with (fail)
      have hbx0 : (W.alloc (Obj.cells #[Value.slice qa 48 ca, Value.slice qg 48 cg] 58)).heap[W.heap.size]? = some (.cells #[Value.slice qa 48 ca, Value.slice qg 48 cg] 58 (0, 0)) := heap_alloc_new _ _
      have hb0 := (Below.refl W.heap.size W).alloc (Nat.le_refl _) (Obj.cells #[Value.slice qa 48 ca, Value.slice qg 48 cg] 58)
      have hlt0 : W.heap.size < (W.alloc (Obj.cells #[Value.slice qa 48 ca, Value.slice qg 48 cg] 58)).heap.size := by simp
      generalize W.alloc (Obj.cells #[Value.slice qa 48 ca, Value.slice qg 48 cg] 58) = W0 at hbx0 hb0 hlt0 ⊢
      go_loopw [18] (fun y wr => ∃ k : Nat, k ≤ 48 ∧ y = .int .i64 k ∧ Hid (∀ i, i < k → okAt ps gs i) ∧ Below W0.heap.size W0 wr) (fun y _ => 48 - (intOf y).toNat)
      case atStart => exact ⟨0, by omega, rfl, fun i hi => by omega, Below.refl _ _⟩
      case round =>
        obtain ⟨k, hk, rfl, hok, hbw⟩ := hrel
        have hb : Below W.heap.size W wr := hb0.trans (hbw.mono hb0.size)
        have hbx : wr.heap[W.heap.size]? = some (.cells #[Value.slice qa 48 ca, Value.slice qg 48 cg] 58 (0, 0)) := (hbw.block _ hlt0).trans hbx0
        by_cases hlt : k < 48
        · obtain ⟨rfl, hba⟩ := HA.out k (by rw [E1.out]; exact hlt)
          obtain ⟨rfl, hbg⟩ := HG.out k (by rw [E2.out]; exact hlt)
          obtain ⟨⟨c, n⟩, hp⟩ : ∃ p, ps[k]? = some p := ⟨_, List.getElem?_eq_getElem (by rw [E1.out]; exact hlt)⟩
          obtain ⟨z, hz⟩ : ∃ z, gs[k]? = some z := ⟨_, List.getElem?_eq_getElem (by rw [E2.out]; exact hlt)⟩
          have hc := HC.out k _ hp
          have d0 : wr.cell? ⟨ba, oa + k * 2, none⟩ = some (.int .i64 c) := (hb.cell (p := ⟨ba, oa + k * 2, none⟩) hba).trans hc.1
          have d1 : wr.cell? ⟨ba, oa + k * 2 + 1, none⟩ = some (.int .i64 n) := (hb.cell (p := ⟨ba, oa + k * 2 + 1, none⟩) hba).trans hc.2
          have x0 : wr.cell? ⟨W.heap.size, 0, none⟩ = some (Value.slice (some ⟨ba, oa, none⟩) 48 ca) := by rw [cell_of_row _ _ _ _ _ _ hbx]; rfl
          have hltI : (k : Int) < 48 := by omega
          have HP := Lib.hid hp
          have HZ := Lib.hid hz
          clear hc hp hz
          go_wp2_with (fail)
          refine (right_any c n _).mono ?_
          rintro e W1 ⟨rfl, hb1⟩
          have hsz := hb.size
          have hbx1 : W1.heap[W.heap.size]? = some (.cells #[Value.slice (some ⟨ba, oa, none⟩) 48 ca, Value.slice (some ⟨bg, og, none⟩) 48 cg] 58 (0, 0)) := (hb1.block _ (by have := (Array.getElem?_eq_some_iff.1 hbx).1; simp; omega)).trans ((heap_alloc_old _ _ (Array.getElem?_eq_some_iff.1 hbx).1).trans hbx)
          have hbw1 : Below W0.heap.size W0 W1 := (hbw.alloc hbw.size _).trans (hb1.mono (Nat.le_trans hbw.size (by simp)))
          have hb2 : Below W.heap.size W W1 := hb0.trans (hbw1.mono hb0.size)
          clear x0 d0 d1 hbx hbw hb hb1
          by_cases hr : Okay (c, n)
          · rw [decide_eq_true hr]
            have x1 : W1.cell? ⟨W.heap.size, 1, none⟩ = some (Value.slice (some ⟨bg, og, none⟩) 48 cg) := by rw [cell_of_row _ _ _ _ _ _ hbx1]; rfl
            have d2 : W1.cell? ⟨bg, og + k, none⟩ = some (.int .i64 z) := (hb2.cell (p := ⟨bg, og + k, none⟩) hbg).trans (HD.out k z HZ.out)
            by_cases z0 : z < 0
            · have hbad : ¬ GoodM ps gs := fun h => by have := (h.2.2 k hlt _ _ HP.out HZ.out).2.1; omega
              clear hr
              go_wp2_with (fail)
              go_ret
              exact ⟨.inr ⟨hbad, rfl⟩, hb2⟩
            · by_cases z1 : 2147483647 < z
              · have hbad : ¬ GoodM ps gs := fun h => by have := (h.2.2 k hlt _ _ HP.out HZ.out).2.2; omega
                clear hr
                go_wp2_with (fail)
                go_ret
                exact ⟨.inr ⟨hbad, rfl⟩, hb2⟩
              · have hnext : Hid (∀ i, i < k + 1 → okAt ps gs i) := fun i hi => by
                  by_cases hik : i < k
                  · exact hok.out i hik
                  · have : i = k := by omega
                    subst this
                    intro p g h1 h2
                    rw [HP.out] at h1
                    rw [HZ.out] at h2
                    have h3 := Option.some.inj h1
                    have h4 := Option.some.inj h2
                    subst h3 h4
                    exact ⟨hr, by omega, by omega⟩
                clear hr
                go_wp2_with (fail)
                exact ⟨⟨k + 1, by omega, rfl, hnext, hbw1⟩, by show 48 - (((k : Int) + 1).toNat) < 48 - ((k : Int).toNat); omega⟩
          · rw [decide_eq_false hr]
            have hbad : ¬ GoodM ps gs := fun h => hr (h.2.2 k hlt _ _ HP.out HZ.out).1
            clear hr
            go_wp2_with (fail)
            go_ret
            exact ⟨.inr ⟨hbad, rfl⟩, hb2⟩
        · have hke : k = 48 := by omega
          subst hke
          have hgood : GoodM ps gs := ⟨E1.out, E2.out, hok.out⟩
          go_wp2_with (fail)
          go_ret
          exact ⟨.inl ⟨hgood, rfl⟩, hb⟩
    · have hbad : ¬ GoodM ps gs := fun h => by have := h.2.1; omega
      have l2b : ((gs.length : Int) != 48) = true := by simpa using l2
      have l1b : ((ps.length : Int) != 48) = false := by simpa using l1
      have hb0 := (Below.refl W.heap.size W).alloc (Nat.le_refl _) (Obj.cells #[Value.slice qa ps.length ca, Value.slice qg gs.length cg] 58)
      clear l1 l2
      go_enter Try.func49, Try.ntmps49
      go_wp2_with (fail)
      go_ret
      exact ⟨.inr ⟨hbad, rfl⟩, hb0⟩
  · have hbad : ¬ GoodM ps gs := fun h => by have := h.1; omega
    have l1b : ((ps.length : Int) != 48) = true := by simpa using l1
    have hb0 := (Below.refl W.heap.size W).alloc (Nat.le_refl _) (Obj.cells #[Value.slice qa ps.length ca, Value.slice qg gs.length cg] 58)
    clear l1
    go_enter Try.func49, Try.ntmps49
    go_wp2_with (fail)
    go_ret
    exact ⟨.inr ⟨hbad, rfl⟩, hb0⟩
end Go.Proofs.Ytkkgmgffkjeklaa.imap
