/-
  Several texts in one: Right, ImapCheck, ImapCk, InodeS.
-/
import Derived.Test.YtcbpeampjhegcaaRows
import Derived.Test.YtcbpeampjhegcaaMore
import Derived.Test.YtcbpeampjhegcaaSlOwn
import Derived.Test.YtcbpeampjhegcaaTypes
import Derived.Test.YtcbpeampjhegcaaSeal
/-
  inode.Right: the walk.
-/
namespace Go.Proofs.Ytcbpeampjhegcaa.imap
open Go.RowKit kit
set_option linter.unusedVariables false

def rowP (p : Int × Int) : List Value := [.int .i64 p.1, .int .i64 p.2]
def Okay (p : Int × Int) : Prop := 0 ≤ p.1 ∧ p.1 < 128 ∧ 0 ≤ p.2 ∧ p.2 < 40 ∧ (p.1 ≠ 0 ∨ p.2 = 0) ∧ p.1 ≠ 1
instance (p : Int × Int) : Decidable (Okay p) := by unfold Okay; infer_instance

set_option maxRecDepth 100000 in
theorem right_any (c n : Int) (W : World) :
    Calls Try.prog 20 #[.agg #[.int .i64 c, .int .i64 n]] W fun e w' => e = .returned (.bool (decide (Okay (c, n)))) ∧ Below W.heap.size W w' := by
  obtain ⟨r, hr⟩ : ∃ r, r = decide (Okay (c, n)) := ⟨_, rfl⟩
  rw [← hr]
  have hb := (Below.refl W.heap.size W).alloc (Nat.le_refl _) (Obj.cells #[Value.int .i64 c, Value.int .i64 n] 38)
  by_cases h1 : 0 ≤ c
  · by_cases h2 : c < 128
    · by_cases h3 : 0 ≤ n
      · by_cases h4 : n < 40
        · by_cases h5 : c = 0
          · by_cases h6 : n = 0
            · have : r = true := by rw [hr, decide_eq_true_iff]; unfold Okay; simp only; omega
              subst this
              subst h5 h6
              clear hr
              go_enter Try.func20, Try.ntmps20
              go_wp2_with (fail)
              go_ret
              exact ⟨rfl, hb⟩
            · have : r = false := by rw [hr, decide_eq_false_iff_not]; unfold Okay; simp only; omega
              subst this
              have hnb : (n == 0) = false := by simpa using h6
              subst h5
              clear hr
              go_enter Try.func20, Try.ntmps20
              go_wp2_with (fail)
              go_ret
              exact ⟨rfl, hb⟩
          · have hcb : (c != 0) = true := by simpa using h5
            by_cases h6 : c = 1
            · have : r = false := by rw [hr, decide_eq_false_iff_not]; unfold Okay; simp only; omega
              subst this
              subst h6
              clear hr
              go_enter Try.func20, Try.ntmps20
              go_wp2_with (fail)
              go_ret
              exact ⟨rfl, hb⟩
            · have : r = true := by rw [hr, decide_eq_true_iff]; unfold Okay; simp only; omega
              subst this
              have hcb1 : (c != 1) = true := by simpa using h6
              clear hr
              go_enter Try.func20, Try.ntmps20
              go_wp2_with (fail)
              go_ret
              exact ⟨rfl, hb⟩
        · have : r = false := by rw [hr, decide_eq_false_iff_not]; unfold Okay; simp only; omega
          subst this
          clear hr
          go_enter Try.func20, Try.ntmps20
          go_wp2_with (fail)
          go_ret
          exact ⟨rfl, hb⟩
      · have : r = false := by rw [hr, decide_eq_false_iff_not]; unfold Okay; simp only; omega
        subst this
        clear hr
        go_enter Try.func20, Try.ntmps20
        go_wp2_with (fail)
        go_ret
        exact ⟨rfl, hb⟩
    · have : r = false := by rw [hr, decide_eq_false_iff_not]; unfold Okay; simp only; omega
      subst this
      clear hr
      go_enter Try.func20, Try.ntmps20
      go_wp2_with (fail)
      go_ret
      exact ⟨rfl, hb⟩
  · have : r = false := by rw [hr, decide_eq_false_iff_not]; unfold Okay; simp only; omega
    subst this
    clear hr
    go_enter Try.func20, Try.ntmps20
    go_wp2_with (fail)
    go_ret
    exact ⟨rfl, hb⟩
end Go.Proofs.Ytcbpeampjhegcaa.imap
/-
  imap.Check: the walk.
-/
namespace Go.Proofs.Ytcbpeampjhegcaa.imap
open Go.RowKit kit
set_option linter.unusedVariables false

def rowI (w : Int) : List Value := [.int .i64 w]
def okAt (ps : List (Int × Int)) (gs : List Int) (i : Nat) : Prop := ∀ p g, ps[i]? = some p → gs[i]? = some g → Okay p ∧ 0 ≤ g ∧ g ≤ 2147483647
/-- a map that may stand -/
def GoodM (ps : List (Int × Int)) (gs : List Int) : Prop := ps.length = 48 ∧ gs.length = 48 ∧ ∀ i, i < 48 → okAt ps gs i

/-- how a map reads -/
structure MapAt (W : World) (a g : Value) (ps : List (Int × Int)) (gs : List Int) : Prop where
  ha : SliceAt W 2 a (ps.map rowP)
  hg : SliceAt W 1 g (gs.map rowI)
  ga : ∀ p ∈ ps, (Lit.int .i64 p.1).wf = true ∧ (Lit.int .i64 p.2).wf = true
  gg : ∀ z ∈ gs, (Lit.int .i64 z).wf = true
  la : ps.length ≤ 1000000000000000
  lg : gs.length ≤ 1000000000000000
theorem MapAt.below {W w : World} {a g : Value} {ps : List (Int × Int)} {gs : List Int} (h : MapAt W a g ps gs) (hb : Below W.heap.size W w) : MapAt w a g ps gs :=
  ⟨h.ha.below (Nat.le_refl _) hb, h.hg.below (Nat.le_refl _) hb, h.ga, h.gg, h.la, h.lg⟩

/-- the cells of a map -/
structure Cells (W : World) (a g : Value) (ps : List (Int × Int)) (gs : List Int) (qa qg : Option Addr) (ca cg ba oa bg og : Nat) : Prop where
  ea : a = .slice qa ps.length ca
  eg : g = .slice qg gs.length cg
  va : ∀ k, k < ps.length → qa = some ⟨ba, oa, none⟩ ∧ ba < W.heap.size
  vg : ∀ k, k < gs.length → qg = some ⟨bg, og, none⟩ ∧ bg < W.heap.size
  c0 : ∀ k p, ps[k]? = some p → W.cell? ⟨ba, oa + k * 2, none⟩ = some (.int .i64 p.1) ∧ W.cell? ⟨ba, oa + k * 2 + 1, none⟩ = some (.int .i64 p.2)
  c1 : ∀ k z, gs[k]? = some z → W.cell? ⟨bg, og + k, none⟩ = some (.int .i64 z)
theorem MapAt.cells {W : World} {a g : Value} {ps : List (Int × Int)} {gs : List Int} (h : MapAt W a g ps gs) : ∃ qa qg ca cg ba oa bg og, Cells W a g ps gs qa qg ca cg ba oa bg og := by
  obtain ⟨qa, ca, ba, oa, rfl, hqa, hca⟩ := h.ha.view
  obtain ⟨qg, cg, bg, og, rfl, hqg, hcg⟩ := h.hg.view
  refine ⟨qa, qg, ca, cg, ba, oa, bg, og, by simp, by simp, by simpa using hqa, by simpa using hqg, fun k p hp => ?_, fun k z hz => ?_⟩
  · have h := hca k (rowP p) (by rw [List.getElem?_map, hp]; rfl)
    exact ⟨h 0 _ rfl, h 1 _ rfl⟩
  · have h := hcg k (rowI z) (by rw [List.getElem?_map, hz]; rfl) 0 _ rfl
    simpa [Nat.mul_one] using h

set_option maxHeartbeats 1000000 in
set_option maxRecDepth 100000 in
theorem check_any (a g : Value) (ps : List (Int × Int)) (gs : List Int) (W : World) (hm : MapAt W a g ps gs) :
    Calls Try.prog 12 #[.agg #[a, g]] W fun e w' => (GoodM ps gs ∧ e = .returned (.int .i64 0) ∨ ¬ GoodM ps gs ∧ e = .returned (.int .i64 4)) ∧ Below W.heap.size W w' := by
  obtain ⟨qa, qg, ca, cg, ba, oa, bg, og, hc⟩ := hm.cells
  obtain ⟨rfl, rfl, va, vg, c0, c1⟩ := hc
  have HA := Lib.hid va
  have HG := Lib.hid vg
  have HC := Lib.hid c0
  have HD := Lib.hid c1
  have hla := hm.la
  have hlg := hm.lg
  have hga := hm.ga
  have hgg := hm.gg
  clear va vg c0 c1 hm
  by_cases l1 : (ps.length : Int) = 48
  · by_cases l2 : (gs.length : Int) = 48
    · have e1 : ps.length = 48 := by omega
      have e2 : gs.length = 48 := by omega
      rw [e1, e2]
      have E1 := Lib.hid e1
      have E2 := Lib.hid e2
      clear l1 l2 e1 e2 hla hlg
      go_enter Try.func12, Try.ntmps12
      go_wp2_with (fail)
      have hbx0 : (W.alloc (Obj.cells #[Value.slice qa 48 ca, Value.slice qg 48 cg] 29)).heap[W.heap.size]? = some (.cells #[Value.slice qa 48 ca, Value.slice qg 48 cg] 29 (0, 0)) := heap_alloc_new _ _
      have hb0 := (Below.refl W.heap.size W).alloc (Nat.le_refl _) (Obj.cells #[Value.slice qa 48 ca, Value.slice qg 48 cg] 29)
      have hlt0 : W.heap.size < (W.alloc (Obj.cells #[Value.slice qa 48 ca, Value.slice qg 48 cg] 29)).heap.size := by simp
      generalize W.alloc (Obj.cells #[Value.slice qa 48 ca, Value.slice qg 48 cg] 29) = W0 at hbx0 hb0 hlt0 ⊢
      go_loopw [18] (fun y wr => ∃ k : Nat, k ≤ 48 ∧ y = .int .i64 k ∧ Hid (∀ i, i < k → okAt ps gs i) ∧ Below W0.heap.size W0 wr) (fun y _ => 48 - (intOf y).toNat)
      case atStart => exact ⟨0, by omega, rfl, fun i hi => by omega, Below.refl _ _⟩
      case round =>
        obtain ⟨k, hk, rfl, hok, hbw⟩ := hrel
        have hb : Below W.heap.size W wr := hb0.trans (hbw.mono hb0.size)
        have hbx : wr.heap[W.heap.size]? = some (.cells #[Value.slice qa 48 ca, Value.slice qg 48 cg] 29 (0, 0)) := (hbw.block _ hlt0).trans hbx0
        by_cases hlt : k < 48
        · obtain ⟨rfl, hba⟩ := HA.out k (by rw [E1.out]; exact hlt)
          obtain ⟨rfl, hbg⟩ := HG.out k (by rw [E2.out]; exact hlt)
          obtain ⟨⟨c, n⟩, hp⟩ : ∃ p, ps[k]? = some p := ⟨_, List.getElem?_eq_getElem (by rw [E1.out]; exact hlt)⟩
          obtain ⟨z, hz⟩ : ∃ z, gs[k]? = some z := ⟨_, List.getElem?_eq_getElem (by rw [E2.out]; exact hlt)⟩
          have hc := HC.out k _ hp
          have d0 : wr.cell? ⟨ba, oa + k * 2, none⟩ = some (.int .i64 c) := (hb.cell (p := ⟨ba, oa + k * 2, none⟩) hba).trans hc.1
          have d1 : wr.cell? ⟨ba, oa + k * 2 + 1, none⟩ = some (.int .i64 n) := (hb.cell (p := ⟨ba, oa + k * 2 + 1, none⟩) hba).trans hc.2
          have x0 : wr.cell? ⟨W.heap.size, 0, none⟩ = some (Value.slice (some ⟨ba, oa, none⟩) 48 ca) := by rw [cell_of_row _ _ _ _ _ _ hbx]; rfl
          have hltI : (k : Int) < 48 := by omega
          have HP := Lib.hid hp
          have HZ := Lib.hid hz
          clear hc hp hz
          go_wp2_with (fail)
          refine (right_any c n _).mono ?_
          rintro e W1 ⟨rfl, hb1⟩
          have hsz := hb.size
          have hbx1 : W1.heap[W.heap.size]? = some (.cells #[Value.slice (some ⟨ba, oa, none⟩) 48 ca, Value.slice (some ⟨bg, og, none⟩) 48 cg] 29 (0, 0)) := (hb1.block _ (by have := (Array.getElem?_eq_some_iff.1 hbx).1; simp; omega)).trans ((heap_alloc_old _ _ (Array.getElem?_eq_some_iff.1 hbx).1).trans hbx)
          have hbw1 : Below W0.heap.size W0 W1 := (hbw.alloc hbw.size _).trans (hb1.mono (Nat.le_trans hbw.size (by simp)))
          have hb2 : Below W.heap.size W W1 := hb0.trans (hbw1.mono hb0.size)
          clear x0 d0 d1 hbx hbw hb hb1
          by_cases hr : Okay (c, n)
          · rw [decide_eq_true hr]
            have x1 : W1.cell? ⟨W.heap.size, 1, none⟩ = some (Value.slice (some ⟨bg, og, none⟩) 48 cg) := by rw [cell_of_row _ _ _ _ _ _ hbx1]; rfl
            have d2 : W1.cell? ⟨bg, og + k, none⟩ = some (.int .i64 z) := (hb2.cell (p := ⟨bg, og + k, none⟩) hbg).trans (HD.out k z HZ.out)
            by_cases z0 : z < 0
            · have hbad : ¬ GoodM ps gs := fun h => by have := (h.2.2 k hlt _ _ HP.out HZ.out).2.1; omega
              clear hr
              go_wp2_with (fail)
              go_ret
              exact ⟨.inr ⟨hbad, rfl⟩, hb2⟩
            · by_cases z1 : 2147483647 < z
              · have hbad : ¬ GoodM ps gs := fun h => by have := (h.2.2 k hlt _ _ HP.out HZ.out).2.2; omega
                clear hr
                go_wp2_with (fail)
                go_ret
                exact ⟨.inr ⟨hbad, rfl⟩, hb2⟩
              · have hnext : Hid (∀ i, i < k + 1 → okAt ps gs i) := fun i hi => by
                  by_cases hik : i < k
                  · exact hok.out i hik
                  · have : i = k := by omega
                    subst this
                    intro p g h1 h2
                    rw [HP.out] at h1
                    rw [HZ.out] at h2
                    have h3 := Option.some.inj h1
                    have h4 := Option.some.inj h2
                    subst h3 h4
                    exact ⟨hr, by omega, by omega⟩
                clear hr
                go_wp2_with (fail)
                exact ⟨⟨k + 1, by omega, rfl, hnext, hbw1⟩, by show 48 - (((k : Int) + 1).toNat) < 48 - ((k : Int).toNat); omega⟩
          · rw [decide_eq_false hr]
            have hbad : ¬ GoodM ps gs := fun h => hr (h.2.2 k hlt _ _ HP.out HZ.out).1
            clear hr
            go_wp2_with (fail)
            go_ret
            exact ⟨.inr ⟨hbad, rfl⟩, hb2⟩
        · have hke : k = 48 := by omega
          subst hke
          have hgood : GoodM ps gs := ⟨E1.out, E2.out, hok.out⟩
          go_wp2_with (fail)
          go_ret
          exact ⟨.inl ⟨hgood, rfl⟩, hb⟩
    · have hbad : ¬ GoodM ps gs := fun h => by have := h.2.1; omega
      have l2b : ((gs.length : Int) != 48) = true := by simpa using l2
      have l1b : ((ps.length : Int) != 48) = false := by simpa using l1
      have hb0 := (Below.refl W.heap.size W).alloc (Nat.le_refl _) (Obj.cells #[Value.slice qa ps.length ca, Value.slice qg gs.length cg] 29)
      clear l1 l2
      go_enter Try.func12, Try.ntmps12
      go_wp2_with (fail)
      go_ret
      exact ⟨.inr ⟨hbad, rfl⟩, hb0⟩
  · have hbad : ¬ GoodM ps gs := fun h => by have := h.1; omega
    have l1b : ((ps.length : Int) != 48) = true := by simpa using l1
    have hb0 := (Below.refl W.heap.size W).alloc (Nat.le_refl _) (Obj.cells #[Value.slice qa ps.length ca, Value.slice qg gs.length cg] 29)
    clear l1
    go_enter Try.func12, Try.ntmps12
    go_wp2_with (fail)
    go_ret
    exact ⟨.inr ⟨hbad, rfl⟩, hb0⟩
end Go.Proofs.Ytcbpeampjhegcaa.imap
/-
  imap.Check and inode.Right, as the small logic says them.
-/
namespace Go.Proofs.Ytcbpeampjhegcaa.imap
open Go.RowKit kit sl
set_option linter.unusedVariables false
def WfM (ps : List (Int × Int)) (gs : List Int) : Prop := (∀ p ∈ ps, (Lit.int .i64 p.1).wf = true ∧ (Lit.int .i64 p.2).wf = true) ∧ (∀ z ∈ gs, (Lit.int .i64 z).wf = true) ∧ ps.length ≤ 1000000000000000 ∧ gs.length ≤ 1000000000000000
theorem mapAt_of {W : World} {a g : Value} {ps : List (Int × Int)} {gs : List Int} (h : HeapOk [sl 2 a (ps.map fII), sl 1 g (gs.map fI)] W) (hw : WfM ps gs) : MapAt W a g ps gs :=
  ⟨h.1 (sl 2 a (ps.map fII)) (by simp), h.1 (sl 1 g (gs.map fI)) (by simp), hw.1, hw.2.1, hw.2.2.1, hw.2.2.2⟩
attribute [local irreducible] box own sl old bptr eptr Qt Opr Run Cod Pst Drn
theorem check_good (a g : Value) {ps : List (Int × Int)} {gs : List Int} (hw : WfM ps gs) (h : GoodM ps gs) : Ct Try.prog 12 [.agg #[a, g]] [sl 2 a (ps.map fII), sl 1 g (gs.map fI)] fun v H' => v = .int .i64 0 ∧ H' = [] :=
  ct_of_calls fun W hW => (check_any a g ps gs W (mapAt_of hW hw)).mono fun e w' ⟨h1, h2⟩ => ⟨by
    rcases h1 with h1 | h1
    · exact h1.2
    · exact absurd h h1.1, h2⟩
theorem check_bad (a g : Value) {ps : List (Int × Int)} {gs : List Int} (hw : WfM ps gs) (h : ¬ GoodM ps gs) : Ct Try.prog 12 [.agg #[a, g]] [sl 2 a (ps.map fII), sl 1 g (gs.map fI)] fun v H' => v = .int .i64 4 ∧ H' = [] :=
  ct_of_calls fun W hW => (check_any a g ps gs W (mapAt_of hW hw)).mono fun e w' ⟨h1, h2⟩ => ⟨by
    rcases h1 with h1 | h1
    · exact absurd h1.1 h
    · exact h1.2, h2⟩
theorem right_ct (p : Int × Int) : Ct Try.prog 20 [.agg #[.int .i64 p.1, .int .i64 p.2]] [] fun v H' => v = .bool (decide (Okay p)) ∧ H' = [] :=
  ct_of_calls fun W hW => right_any p.1 p.2 W
end Go.Proofs.Ytcbpeampjhegcaa.imap
/-
  inode: Check and Read, as the small logic says them.
-/
namespace Go.Proofs.Ytcbpeampjhegcaa.inode
open Go.RowKit kit sl imap Go.Proofs.Ytcbpeampjhegcaa.seal Go.Proofs.Ytcbpeampjhegcaa.fix
set_option linter.unusedVariables false
def allOk : List (Int × Int) → Bool
  | [] => true
  | p :: l => if Okay p then allOk l else false
theorem allOk_take {ps : List (Int × Int)} {k : Nat} {p : Int × Int} (hp : ps[k]? = some p) (h : allOk (ps.take k) = true) : (Okay p → allOk (ps.take (k + 1)) = true) ∧ (¬ Okay p → allOk ps = false) := by
  induction ps generalizing k with
  | nil => simp at hp
  | cons q ps ih =>
    cases k with
    | zero =>
      simp at hp
      subst hp
      exact ⟨fun h => by simp [allOk, h], fun h => by simp [allOk, h]⟩
    | succ k =>
      simp only [List.take_succ_cons, allOk] at h ⊢
      split at h
      · rename_i h2
        rw [if_pos h2, if_pos h2]
        exact ih (by simpa using hp) h
      · cases h
theorem allOk_mem {ps : List (Int × Int)} (h : allOk ps = true) : ∀ p ∈ ps, Okay p := by
  induction ps with
  | nil => intro p hp; exact absurd hp List.not_mem_nil
  | cons q ps ih =>
    rw [allOk] at h
    split at h
    · rename_i h2
      intro p hp
      rcases List.mem_cons.1 hp with rfl | hp
      · exact h2
      · exact ih h p hp
    · cases h
/-- inode.Check -/
def checkI (k g z : Int) (ps : List (Int × Int)) : Int :=
  if (k ≠ 1 ∧ k ≠ 2) ∨ g < 0 ∨ 2147483647 < g then 1 else if z < 0 ∨ 4096 < z then 2 else if (ps.length : Int) ≠ (z + 512 - 1) / 512 then 4 else if allOk ps = true then 0 else 4
/-- the bytes as pairs -/
def prs : List UInt8 → List (Int × Int)
  | a :: b :: l => ((a.toNat : Int), (b.toNat : Int)) :: prs l
  | _ => []
theorem prs_next {l : List UInt8} {i : Nat} {a b : UInt8} (ha : l[i]? = some a) (hb : l[i + 1]? = some b) : prs (l.drop i) = ((a.toNat : Int), (b.toNat : Int)) :: prs (l.drop (i + 2)) := by
  have h1 := (List.getElem?_eq_some_iff.1 ha)
  have h2 := (List.getElem?_eq_some_iff.1 hb)
  obtain ⟨g1, e1⟩ := h1
  obtain ⟨g2, e2⟩ := h2
  rw [List.drop_eq_getElem_cons g1, List.drop_eq_getElem_cons g2, e1, e2, prs]
theorem prs_end {l : List UInt8} {i : Nat} (h : l.length ≤ i) : prs (l.drop i) = [] := by
  rw [List.drop_eq_nil_of_le h]; rfl
theorem prs_len : ∀ (n : Nat) (l : List UInt8), l.length ≤ n → (prs l).length ≤ n := by
  intro n
  induction n using Nat.strongRecOn with
  | _ n ih =>
    intro l h
    match l, h with
    | [], _ => exact Nat.zero_le _
    | [a], _ => exact Nat.zero_le _
    | a :: b :: l, h =>
      rw [prs, List.length_cons]
      simp only [List.length_cons] at h
      have := ih (n - 2) (by omega) l (by omega)
      omega
def kI (l : List UInt8) : Int := ((l.getD 0 0).toNat : Int)
def gI (l : List UInt8) : Int := (unfixN (cutB l 1 5) : Int)
def zI (l : List UInt8) : Int := (unfixN (cutB l 5 7) : Int)
def pI (l : List UInt8) : List (Int × Int) := prs (l.drop 7)
def goodI (l : List UInt8) : Prop := 7 ≤ l.length ∧ l.length % 2 = 1 ∧ checkI (kI l) (gI l) (zI l) (pI l) = 0
instance (l : List UInt8) : Decidable (goodI l) := by unfold goodI; infer_instance
theorem goodI_parts {l : List UInt8} (h : goodI l) : ∀ p ∈ pI l, Okay p := by
  have h2 := h.2.2
  unfold checkI at h2
  split at h2
  · cases h2
  · split at h2
    · cases h2
    · split at h2
      · cases h2
      · split at h2
        · rename_i h3; exact allOk_mem h3
        · cases h2
attribute [local irreducible] box own sl old bptr eptr Qt Opr Run Cod Pst Drn
set_option maxRecDepth 100000 in
set_option maxHeartbeats 8000000 in
theorem checkI_any (k g z : Int) (q : Option Addr) (c : Nat) (ps : List (Int × Int)) (hk : (Lit.int .i64 k).wf = true) (hg : (Lit.int .i64 g).wf = true) (hz : (Lit.int .i64 z).wf = true) (hl : ps.length ≤ 1000000000000) :
    Ct Try.prog 27 [.agg #[.int .i64 k, .int .i64 g, .int .i64 z, .slice q ps.length c]] [sl 2 (.slice q ps.length c) (ps.map fII)] fun v H' => v = .int .i64 (checkI k g z ps) ∧ H' = [] := by
  have hzb := i64_bd hz
  by_cases h1 : (k ≠ 1 ∧ k ≠ 2) ∨ g < 0 ∨ 2147483647 < g
  · have e : checkI k g z ps = 1 := by unfold checkI; rw [if_pos h1]
    rw [e]
    (refine spec_enter Try.func27 Try.ntmps27 rfl rfl fun Fr => ?_; dsimp only [List.cons_append, List.nil_append, ini, Nat.reduceAdd])
    (repeat' (first | (apply run_qg 1; (focus rfl); (focus exact wt); (focus rfl); (focus (exact qg1))) | (apply run_qg 2; (focus rfl); (focus exact wt); (focus rfl); (focus (first | exact qg2 | exact qs2))) | (apply run_qg 3; (focus rfl); (focus exact wt); (focus rfl); (focus (first | exact qg3 | exact qs3))) | (apply run_qg 4; (focus rfl); (focus exact wt); (focus rfl); (focus (first | exact qg4 | exact qs4))) | refine cod_seq ?_ | refine cod_region ?_ | refine run_nil ?_ | refine pst_then ?_ | (apply cod_cond_t; (focus rfl)) | refine cod_ret ?_ | refine pst_then_ret ?_ | (apply run_osg 8; (focus rfl); (focus exact wt); (focus rfl); (focus (exact opr_box_agg rfl rfl)); (rintro _ _ ⟨b, rfl, rfl⟩)) | (apply run_offs; (focus rfl); (focus rfl); (focus rfl)) | ((first | (apply run_lss; (rotate_left 2); (focus rfl)) | (apply run_leq; (rotate_left 2); (focus rfl)) | (apply run_gtr; (rotate_left 2); (focus rfl)) | (apply run_geq; (rotate_left 2); (focus rfl)) | (apply run_eql; (rotate_left 2); (focus rfl)) | (apply run_neq; (rotate_left 2); (focus rfl)) | (apply run_seq; (rotate_left 2); (focus rfl)) | (apply run_sneq; (rotate_left 2); (focus rfl))); (focus rfl); (focus rfl); (rotate_right 2); (focus exact wt); (focus rfl); (all_goals (intro h; dsimp only [upd])))))
    all_goals first | (exfalso; omega) | exact pst_fin rfl (by exact resa) _ (⟨rfl, rfl⟩) (by exact hsa)
  · by_cases h2 : z < 0 ∨ 4096 < z
    · have e : checkI k g z ps = 2 := by unfold checkI; rw [if_neg h1, if_pos h2]
      rw [e]
      (refine spec_enter Try.func27 Try.ntmps27 rfl rfl fun Fr => ?_; dsimp only [List.cons_append, List.nil_append, ini, Nat.reduceAdd])
      (repeat' (first | (apply run_qg 1; (focus rfl); (focus exact wt); (focus rfl); (focus (exact qg1))) | (apply run_qg 2; (focus rfl); (focus exact wt); (focus rfl); (focus (first | exact qg2 | exact qs2))) | (apply run_qg 3; (focus rfl); (focus exact wt); (focus rfl); (focus (first | exact qg3 | exact qs3))) | (apply run_qg 4; (focus rfl); (focus exact wt); (focus rfl); (focus (first | exact qg4 | exact qs4))) | refine cod_seq ?_ | refine cod_region ?_ | refine run_nil ?_ | refine pst_then ?_ | (apply cod_cond_t; (focus rfl)) | (apply cod_cond_f; (focus rfl)) | refine cod_ret ?_ | refine cod_skip ?_ | refine pst_then_ret ?_ | (apply run_osg 8; (focus rfl); (focus exact wt); (focus rfl); (focus (exact opr_box_agg rfl rfl)); (rintro _ _ ⟨b, rfl, rfl⟩)) | (apply run_offs; (focus rfl); (focus rfl); (focus rfl)) | ((first | (apply run_lss; (rotate_left 2); (focus rfl)) | (apply run_leq; (rotate_left 2); (focus rfl)) | (apply run_gtr; (rotate_left 2); (focus rfl)) | (apply run_geq; (rotate_left 2); (focus rfl)) | (apply run_eql; (rotate_left 2); (focus rfl)) | (apply run_neq; (rotate_left 2); (focus rfl)) | (apply run_seq; (rotate_left 2); (focus rfl)) | (apply run_sneq; (rotate_left 2); (focus rfl))); (focus rfl); (focus rfl); (rotate_right 2); (focus exact wt); (focus rfl); (all_goals (intro h; dsimp only [upd])))))
      all_goals first | (exfalso; omega) | exact pst_fin rfl (by exact resa) _ (⟨rfl, rfl⟩) (by exact hsa)
    · by_cases h3 : (ps.length : Int) ≠ (z + 512 - 1) / 512
      · have e : checkI k g z ps = 4 := by unfold checkI; rw [if_neg h1, if_neg h2, if_pos h3]
        rw [e]
        (refine spec_enter Try.func27 Try.ntmps27 rfl rfl fun Fr => ?_; dsimp only [List.cons_append, List.nil_append, ini, Nat.reduceAdd])
        (repeat' (first | (apply run_qg 1; (focus rfl); (focus exact wt); (focus rfl); (focus (exact qg1))) | (apply run_qg 2; (focus rfl); (focus exact wt); (focus rfl); (focus (first | exact qg2 | exact qs2))) | (apply run_qg 3; (focus rfl); (focus exact wt); (focus rfl); (focus (first | exact qg3 | exact qs3))) | (apply run_qg 4; (focus rfl); (focus exact wt); (focus rfl); (focus (first | exact qg4 | exact qs4))) | (apply run_qg 6; (focus rfl); (focus exact wt); (focus rfl); (focus (first | exact qs6 | exact qg6 | exact q_max rfl rfl rfl | exact q_sliceData rfl rfl (by omega) | exact q_sliceDataN rfl rfl | exact q_unsafeStringN rfl rfl rfl | exact q_cap_slice rfl rfl))) | refine cod_seq ?_ | refine cod_region ?_ | refine run_nil ?_ | refine pst_then ?_ | (apply cod_cond_t; (focus rfl)) | (apply cod_cond_f; (focus rfl)) | refine cod_ret ?_ | refine cod_skip ?_ | refine pst_then_ret ?_ | (apply run_osg 8; (focus rfl); (focus exact wt); (focus rfl); (focus (exact opr_box_agg rfl rfl)); (rintro _ _ ⟨b, rfl, rfl⟩)) | (apply run_offs; (focus rfl); (focus rfl); (focus rfl)) | ((first | (apply run_lss; (rotate_left 2); (focus rfl)) | (apply run_leq; (rotate_left 2); (focus rfl)) | (apply run_gtr; (rotate_left 2); (focus rfl)) | (apply run_geq; (rotate_left 2); (focus rfl)) | (apply run_eql; (rotate_left 2); (focus rfl)) | (apply run_neq; (rotate_left 2); (focus rfl)) | (apply run_seq; (rotate_left 2); (focus rfl)) | (apply run_sneq; (rotate_left 2); (focus rfl))); (focus rfl); (focus rfl); (rotate_right 2); (focus exact wt); (focus rfl); (all_goals (intro h; dsimp only [upd])))))
        all_goals first | (exfalso; omega) | exact pst_fin rfl (by exact resa) _ (⟨rfl, rfl⟩) (by exact hsa)
      · have e : checkI k g z ps = if allOk ps = true then 0 else 4 := by unfold checkI; rw [if_neg h1, if_neg h2, if_neg h3]
        rw [e]
        have h3' : (ps.length : Int) = (z + 512 - 1) / 512 := Decidable.not_not.1 h3
        have hk12 : k = 1 ∨ k = 2 := by omega
        rcases hk12 with rfl | rfl
        · (refine spec_enter Try.func27 Try.ntmps27 rfl rfl fun Fr => ?_; dsimp only [List.cons_append, List.nil_append, ini, Nat.reduceAdd])
          (repeat' (first | (apply run_qg 1; (focus rfl); (focus exact wt); (focus rfl); (focus (exact qg1))) | (apply run_qg 2; (focus rfl); (focus exact wt); (focus rfl); (focus (first | exact qg2 | exact qs2))) | (apply run_qg 3; (focus rfl); (focus exact wt); (focus rfl); (focus (first | exact qg3 | exact qs3))) | (apply run_qg 4; (focus rfl); (focus exact wt); (focus rfl); (focus (first | exact qg4 | exact qs4))) | (apply run_qg 6; (focus rfl); (focus exact wt); (focus rfl); (focus (first | exact qs6 | exact qg6 | exact q_max rfl rfl rfl | exact q_sliceData rfl rfl (by omega) | exact q_sliceDataN rfl rfl | exact q_unsafeStringN rfl rfl rfl | exact q_cap_slice rfl rfl))) | refine cod_seq ?_ | refine cod_region ?_ | refine run_nil ?_ | refine pst_then ?_ | (apply cod_cond_f; (focus rfl)) | refine cod_block ?_ | refine cod_skip ?_ | (apply run_osg 8; (focus rfl); (focus exact wt); (focus rfl); (focus (exact opr_box_agg rfl rfl)); (rintro _ _ ⟨b, rfl, rfl⟩)) | (apply run_offs; (focus rfl); (focus rfl); (focus rfl))))
          (refine cod_loop_ro (σ := Nat) (fun k => k ≤ ps.length ∧ allOk (ps.take k) = true) (fun k => [(43, .int .i64 (k : Int))]) (fun k => ps.length - k) (0) (by exact ⟨Nat.zero_le _, rfl⟩) (by exact fsa) (fun k ⟨hk, ha⟩ => ?_); dsimp only [List.cons_append, List.nil_append])
          rcases get_or ps k with ⟨p, hp, hlt⟩ | hge
          · have R0 := right_ct p
            have ht := allOk_take hp ha
            by_cases ho : Okay p
            · have e0 : decide (Okay p) = true := by simpa using ho
              rw [e0] at R0
              (repeat' (first | (apply run_qg 1; (focus rfl); (focus exact wt); (focus rfl); (focus (exact qg1))) | (apply run_qg 2; (focus rfl); (focus exact wt); (focus rfl); (focus (first | exact qg2 | exact qs2))) | (apply run_qg 3; (focus rfl); (focus exact wt); (focus rfl); (focus (first | exact qg3 | exact qs3))) | (apply run_qg 4; (focus rfl); (focus exact wt); (focus rfl); (focus (first | exact qg4 | exact qs4))) | refine cod_seq ?_ | refine cod_region ?_ | refine run_nil ?_ | refine pst_then ?_ | (apply cod_cond_t; (focus rfl)) | (apply cod_cond_f; (focus rfl)) | refine cod_block ?_ | refine cod_skip ?_ | refine pst_block ?_ | (apply run_osg 8; (focus rfl); (focus exact wt); (focus rfl); (focus (exact opr_new rfl)); (rintro _ _ ⟨b, rfl, rfl⟩)) | (apply run_ong 9; (focus rfl); (focus exact wt); (focus (exact opr_store_box_agg rfl rfl rfl (by exact pka) rfl rfl rfl (by exact spla))); (rintro _ _ ⟨rfl, rfl⟩)) | (apply run_osg 7; (focus rfl); (focus exact wt); (focus rfl); (focus (exact opr_call_ls (by rfl) (R0 ..) (by rfl) lpa)); (rintro _ _ ⟨rfl, rfl⟩))))
              refine pst_again (k + 1) ?_ (FSub.of (by (try dsimp only); exact fsa)) (by (try dsimp only); exact hsa) ?_
              · exact ⟨hlt, ht.1 ho⟩
              · omega
            · have e0 : decide (Okay p) = false := by simpa using ho
              rw [e0] at R0
              rw [if_neg (by rw [ht.2 ho]; decide)]
              (repeat' (first | (apply run_qg 1; (focus rfl); (focus exact wt); (focus rfl); (focus (exact qg1))) | (apply run_qg 2; (focus rfl); (focus exact wt); (focus rfl); (focus (first | exact qg2 | exact qs2))) | (apply run_qg 3; (focus rfl); (focus exact wt); (focus rfl); (focus (first | exact qg3 | exact qs3))) | (apply run_qg 4; (focus rfl); (focus exact wt); (focus rfl); (focus (first | exact qg4 | exact qs4))) | refine cod_seq ?_ | refine cod_region ?_ | refine run_nil ?_ | refine pst_then ?_ | (apply cod_cond_t; (focus rfl)) | refine cod_block ?_ | refine cod_ret ?_ | refine cod_skip ?_ | refine pst_block_ret ?_ | refine pst_then_ret ?_ | (apply run_osg 8; (focus rfl); (focus exact wt); (focus rfl); (focus (exact opr_new rfl)); (rintro _ _ ⟨b, rfl, rfl⟩)) | (apply run_ong 9; (focus rfl); (focus exact wt); (focus (exact opr_store_box_agg rfl rfl rfl (by exact pka) rfl rfl rfl (by exact spla))); (rintro _ _ ⟨rfl, rfl⟩)) | (apply run_osg 7; (focus rfl); (focus exact wt); (focus rfl); (focus (exact opr_call_ls (by rfl) (R0 ..) (by rfl) lpa)); (rintro _ _ ⟨rfl, rfl⟩))))
              exact pst_fin rfl (by exact resa) _ (⟨rfl, rfl⟩) (by exact hsa)
          · have hkl : k = ps.length := by omega
            subst hkl
            rw [List.take_length] at ha
            rw [if_pos ha]
            (repeat' (first | (apply run_qg 1; (focus rfl); (focus exact wt); (focus rfl); (focus (exact qg1))) | (apply run_qg 4; (focus rfl); (focus exact wt); (focus rfl); (focus (first | exact qg4 | exact qs4))) | refine cod_seq ?_ | refine cod_region ?_ | refine run_nil ?_ | refine pst_then ?_ | (apply cod_cond_f; (focus rfl)) | refine cod_exit ?_ | refine cod_ret ?_ | refine pst_block_here ?_ | refine pst_then_exit ?_))
            exact pst_fin rfl (by exact resa) _ (⟨rfl, rfl⟩) (by exact hsa)
        · (refine spec_enter Try.func27 Try.ntmps27 rfl rfl fun Fr => ?_; dsimp only [List.cons_append, List.nil_append, ini, Nat.reduceAdd])
          (repeat' (first | (apply run_qg 1; (focus rfl); (focus exact wt); (focus rfl); (focus (exact qg1))) | (apply run_qg 2; (focus rfl); (focus exact wt); (focus rfl); (focus (first | exact qg2 | exact qs2))) | (apply run_qg 3; (focus rfl); (focus exact wt); (focus rfl); (focus (first | exact qg3 | exact qs3))) | (apply run_qg 4; (focus rfl); (focus exact wt); (focus rfl); (focus (first | exact qg4 | exact qs4))) | (apply run_qg 6; (focus rfl); (focus exact wt); (focus rfl); (focus (first | exact qs6 | exact qg6 | exact q_max rfl rfl rfl | exact q_sliceData rfl rfl (by omega) | exact q_sliceDataN rfl rfl | exact q_unsafeStringN rfl rfl rfl | exact q_cap_slice rfl rfl))) | refine cod_seq ?_ | refine cod_region ?_ | refine run_nil ?_ | refine pst_then ?_ | (apply cod_cond_f; (focus rfl)) | refine cod_block ?_ | refine cod_skip ?_ | (apply run_osg 8; (focus rfl); (focus exact wt); (focus rfl); (focus (exact opr_box_agg rfl rfl)); (rintro _ _ ⟨b, rfl, rfl⟩))))
          (refine cod_loop_ro (σ := Nat) (fun k => k ≤ ps.length ∧ allOk (ps.take k) = true) (fun k => [(43, .int .i64 (k : Int))]) (fun k => ps.length - k) (0) (by exact ⟨Nat.zero_le _, rfl⟩) (by exact fsa) (fun k ⟨hk, ha⟩ => ?_); dsimp only [List.cons_append, List.nil_append])
          rcases get_or ps k with ⟨p, hp, hlt⟩ | hge
          · have R0 := right_ct p
            have ht := allOk_take hp ha
            by_cases ho : Okay p
            · have e0 : decide (Okay p) = true := by simpa using ho
              rw [e0] at R0
              (repeat' (first | (apply run_qg 1; (focus rfl); (focus exact wt); (focus rfl); (focus (exact qg1))) | (apply run_qg 2; (focus rfl); (focus exact wt); (focus rfl); (focus (first | exact qg2 | exact qs2))) | (apply run_qg 3; (focus rfl); (focus exact wt); (focus rfl); (focus (first | exact qg3 | exact qs3))) | (apply run_qg 4; (focus rfl); (focus exact wt); (focus rfl); (focus (first | exact qg4 | exact qs4))) | refine cod_seq ?_ | refine cod_region ?_ | refine run_nil ?_ | refine pst_then ?_ | (apply cod_cond_t; (focus rfl)) | (apply cod_cond_f; (focus rfl)) | refine cod_block ?_ | refine cod_skip ?_ | refine pst_block ?_ | (apply run_osg 8; (focus rfl); (focus exact wt); (focus rfl); (focus (exact opr_new rfl)); (rintro _ _ ⟨b, rfl, rfl⟩)) | (apply run_ong 9; (focus rfl); (focus exact wt); (focus (exact opr_store_box_agg rfl rfl rfl (by exact pka) rfl rfl rfl (by exact spla))); (rintro _ _ ⟨rfl, rfl⟩)) | (apply run_osg 7; (focus rfl); (focus exact wt); (focus rfl); (focus (exact opr_call_ls (by rfl) (R0 ..) (by rfl) lpa)); (rintro _ _ ⟨rfl, rfl⟩))))
              refine pst_again (k + 1) ?_ (FSub.of (by (try dsimp only); exact fsa)) (by (try dsimp only); exact hsa) ?_
              · exact ⟨hlt, ht.1 ho⟩
              · omega
            · have e0 : decide (Okay p) = false := by simpa using ho
              rw [e0] at R0
              rw [if_neg (by rw [ht.2 ho]; decide)]
              (repeat' (first | (apply run_qg 1; (focus rfl); (focus exact wt); (focus rfl); (focus (exact qg1))) | (apply run_qg 2; (focus rfl); (focus exact wt); (focus rfl); (focus (first | exact qg2 | exact qs2))) | (apply run_qg 3; (focus rfl); (focus exact wt); (focus rfl); (focus (first | exact qg3 | exact qs3))) | (apply run_qg 4; (focus rfl); (focus exact wt); (focus rfl); (focus (first | exact qg4 | exact qs4))) | refine cod_seq ?_ | refine cod_region ?_ | refine run_nil ?_ | refine pst_then ?_ | (apply cod_cond_t; (focus rfl)) | refine cod_block ?_ | refine cod_ret ?_ | refine cod_skip ?_ | refine pst_block_ret ?_ | refine pst_then_ret ?_ | (apply run_osg 8; (focus rfl); (focus exact wt); (focus rfl); (focus (exact opr_new rfl)); (rintro _ _ ⟨b, rfl, rfl⟩)) | (apply run_ong 9; (focus rfl); (focus exact wt); (focus (exact opr_store_box_agg rfl rfl rfl (by exact pka) rfl rfl rfl (by exact spla))); (rintro _ _ ⟨rfl, rfl⟩)) | (apply run_osg 7; (focus rfl); (focus exact wt); (focus rfl); (focus (exact opr_call_ls (by rfl) (R0 ..) (by rfl) lpa)); (rintro _ _ ⟨rfl, rfl⟩))))
              exact pst_fin rfl (by exact resa) _ (⟨rfl, rfl⟩) (by exact hsa)
          · have hkl : k = ps.length := by omega
            subst hkl
            rw [List.take_length] at ha
            rw [if_pos ha]
            (repeat' (first | (apply run_qg 1; (focus rfl); (focus exact wt); (focus rfl); (focus (exact qg1))) | (apply run_qg 4; (focus rfl); (focus exact wt); (focus rfl); (focus (first | exact qg4 | exact qs4))) | refine cod_seq ?_ | refine cod_region ?_ | refine run_nil ?_ | refine pst_then ?_ | (apply cod_cond_f; (focus rfl)) | refine cod_exit ?_ | refine cod_ret ?_ | refine pst_block_here ?_ | refine pst_then_exit ?_))
            exact pst_fin rfl (by exact resa) _ (⟨rfl, rfl⟩) (by exact hsa)
def ReadI (l : List UInt8) (v : Value) (H' : List Ent) : Prop :=
  (goodI l ∧ ∃ q c, v = .tuple #[.agg #[.int .i64 (kI l), .int .i64 (gI l), .int .i64 (zI l), .slice q (pI l).length c], .int .i64 0] ∧ H' = [own (.slice q (pI l).length c) 38 2 (pI l).length (flat fII (pI l))]) ∨
  (¬ goodI l ∧ v = .tuple #[.agg #[.int .i64 0, .int .i64 0, .int .i64 0, .slice none 0 0], .int .i64 4] ∧ H' = [])
instance {l : List UInt8} : Xcl (ReadI l) := by unfold ReadI; infer_instance
set_option maxRecDepth 100000 in
set_option maxHeartbeats 8000000 in
theorem readI_any (l : List UInt8) (hl : l.length ≤ 4000000) : Ct Try.prog 22 [.string (str l)] [] (ReadI l) := by
  have bad : ¬ goodI l → ReadI l (.tuple #[.agg #[.int .i64 0, .int .i64 0, .int .i64 0, .slice none 0 0], .int .i64 4]) [] := fun h => .inr ⟨h, rfl, rfl⟩
  by_cases h7 : l.length < 7
  · have B0 := bad fun h => by have := h.1; omega
    (refine spec_enter Try.func22 Try.ntmps22 rfl rfl fun Fr => ?_; dsimp only [List.cons_append, List.nil_append, ini, Nat.reduceAdd])
    (repeat' (first | (apply run_qg 1; (focus rfl); (focus exact wt); (focus rfl); (focus (exact qg1))) | (apply run_qg 4; (focus rfl); (focus exact wt); (focus rfl); (focus (first | exact qg4 | exact qs4))) | (apply run_qg 5; (focus rfl); (focus exact wt); (focus rfl); (focus (exact qg5))) | (apply run_qg 6; (focus rfl); (focus exact wt); (focus rfl); (focus (first | exact qs6 | exact qg6 | exact q_max rfl rfl rfl | exact q_sliceData rfl rfl (by omega) | exact q_sliceDataN rfl rfl | exact q_unsafeStringN rfl rfl rfl | exact q_cap_slice rfl rfl))) | refine cod_seq ?_ | refine cod_region ?_ | refine run_nil ?_ | refine pst_then ?_ | (apply cod_cond_t; (focus rfl)) | refine cod_ret ?_ | refine pst_then_ret ?_ | (apply run_osg 8; (focus rfl); (focus exact wt); (focus rfl); (focus (exact opr_new rfl)); (rintro _ _ ⟨b, rfl, rfl⟩)) | (apply run_ong 9; (focus rfl); (focus exact wt); (focus (exact opr_store_box_agg rfl rfl rfl (by exact pka) rfl rfl rfl (by exact spla))); (rintro _ _ ⟨rfl, rfl⟩)) | (apply run_offs; (focus rfl); (focus rfl); (focus rfl))))
    exact pst_fin rfl (by exact resa) _ (B0) (by exact hsa)
  · by_cases h2 : l.length % 2 = 0
    · have B0 := bad fun h => by have := h.2.1; omega
      have h2I : (l.length : Int) % 2 = 0 := by omega
      (refine spec_enter Try.func22 Try.ntmps22 rfl rfl fun Fr => ?_; dsimp only [List.cons_append, List.nil_append, ini, Nat.reduceAdd])
      (repeat' (first | (apply run_qg 1; (focus rfl); (focus exact wt); (focus rfl); (focus (exact qg1))) | (apply run_qg 4; (focus rfl); (focus exact wt); (focus rfl); (focus (first | exact qg4 | exact qs4))) | (apply run_qg 5; (focus rfl); (focus exact wt); (focus rfl); (focus (exact qg5))) | (apply run_qg 6; (focus rfl); (focus exact wt); (focus rfl); (focus (first | exact qs6 | exact qg6 | exact q_max rfl rfl rfl | exact q_sliceData rfl rfl (by omega) | exact q_sliceDataN rfl rfl | exact q_unsafeStringN rfl rfl rfl | exact q_cap_slice rfl rfl))) | refine cod_seq ?_ | refine cod_region ?_ | refine run_nil ?_ | refine pst_then ?_ | (apply cod_cond_t; (focus rfl)) | refine cod_ret ?_ | refine pst_then_ret ?_ | (apply run_osg 8; (focus rfl); (focus exact wt); (focus rfl); (focus (exact opr_new rfl)); (rintro _ _ ⟨b, rfl, rfl⟩)) | (apply run_ong 9; (focus rfl); (focus exact wt); (focus (exact opr_store_box_agg rfl rfl rfl (by exact pka) rfl rfl rfl (by exact spla))); (rintro _ _ ⟨rfl, rfl⟩))))
      exact pst_fin rfl (by exact resa) _ (B0) (by exact hsa)
    · have h2I : ¬ (l.length : Int) % 2 = 0 := by omega
      obtain ⟨b0, hb0⟩ : ∃ b0, l[0]? = some b0 := ⟨_, List.getElem?_eq_getElem (by omega)⟩
      have hk : kI l = (b0.toNat : Int) := by unfold kI; rw [List.getD_eq_getElem?_getD, hb0]; rfl
      have U1 := unfix_ct (cutB l 1 5) (by unfold cutB; rw [List.length_take]; omega)
      have U2 := unfix_ct (cutB l 5 7) (by unfold cutB; rw [List.length_take]; omega)
      have u1 : unfixN (cutB l 1 5) < 4294967296 := by
        have := unfixN_lt (cutB l 1 5)
        have h2 : (cutB l 1 5).length = 4 := by unfold cutB; rw [List.length_take, List.length_drop]; omega
        rwa [h2] at this
      have u2 : unfixN (cutB l 5 7) < 65536 := by
        have := unfixN_lt (cutB l 5 7)
        have h2 : (cutB l 5 7).length = 2 := by unfold cutB; rw [List.length_take, List.length_drop]; omega
        rwa [h2] at this
      have hg : gI l = (unfixN (cutB l 1 5) : Int) := rfl
      have hz : zI l = (unfixN (cutB l 5 7) : Int) := rfl
      have hbt := b0.toNat_lt
      have hs1 : (l.drop 1).take (5 - 1) = cutB l 1 5 := rfl
      have hs2 : (l.drop 5).take (7 - 5) = cutB l 5 7 := rfl
      have hpl : (pI l).length ≤ 4000000 := prs_len 4000000 _ (by rw [List.length_drop]; omega)
      have wk : (Lit.int .i64 (kI l)).wf = true := by rw [hk]; simp [Lit.wf, IntKind.min, IntKind.max, IntKind.signed, IntKind.bits]; omega
      have wg : (Lit.int .i64 (gI l)).wf = true := by rw [hg]; simp [Lit.wf, IntKind.min, IntKind.max, IntKind.signed, IntKind.bits]; omega
      have wz : (Lit.int .i64 (zI l)).wf = true := by rw [hz]; simp [Lit.wf, IntKind.min, IntKind.max, IntKind.signed, IntKind.bits]; omega
      have CK := fun q c => checkI_any (kI l) (gI l) (zI l) q c (pI l) wk wg wz (by omega)
      obtain ⟨ce, hce⟩ : ∃ ce, checkI (kI l) (gI l) (zI l) (pI l) = ce := ⟨_, rfl⟩
      rw [hce] at CK
      have hgood : goodI l ↔ ce = 0 := by
        unfold goodI
        rw [hce]
        exact ⟨fun h => h.2.2, fun h => ⟨by omega, by omega, h⟩⟩
      unfold ReadI
      rw [hk, hg, hz] at CK ⊢
      generalize unfixN (cutB l 1 5) = n1 at *
      generalize unfixN (cutB l 5 7) = n2 at *
      (refine spec_enter Try.func22 Try.ntmps22 rfl rfl fun Fr => ?_; dsimp only [List.cons_append, List.nil_append, ini, Nat.reduceAdd])
      (repeat' (first | (apply run_qg 1; (focus rfl); (focus exact wt); (focus rfl); (focus (exact qg1))) | (apply run_qg 3; (focus rfl); (focus exact wt); (focus rfl); (focus (first | exact qg3 | exact qs3))) | (apply run_qg 4; (focus rfl); (focus exact wt); (focus rfl); (focus (first | exact qg4 | exact qs4))) | (apply run_qg 5; (focus rfl); (focus exact wt); (focus rfl); (focus (exact qg5))) | (apply run_qg 6; (focus rfl); (focus exact wt); (focus rfl); (focus (first | exact qs6 | exact qg6 | exact q_max rfl rfl rfl | exact q_sliceData rfl rfl (by omega) | exact q_sliceDataN rfl rfl | exact q_unsafeStringN rfl rfl rfl | exact q_cap_slice rfl rfl))) | (apply run_qg 11; (focus rfl); (focus exact wt); (focus rfl); (focus (exact qs11))) | (apply run_qg 12; (focus rfl); (focus exact wt); (focus rfl); (focus (first | exact qs12 | exact q_cutp rfl rfl rfl rfl (by omega) (by omega) | exact q_slice_cap rfl rfl rfl rfl (by omega)))) | refine cod_seq ?_ | refine cod_region ?_ | refine run_nil ?_ | refine pst_then ?_ | (apply cod_cond_f; (focus rfl)) | refine cod_block ?_ | refine cod_skip ?_ | (apply run_osg 8; (focus rfl); (focus exact wt); (focus rfl); (focus (exact opr_new rfl)); (rintro _ _ ⟨b, rfl, rfl⟩)) | (apply run_ong 9; (focus rfl); (focus exact wt); (focus (exact opr_store_box_agg rfl rfl rfl (by exact pka) rfl rfl rfl (by exact spla))); (rintro _ _ ⟨rfl, rfl⟩)) | (apply run_osg 7; (focus rfl); (focus exact wt); (focus rfl); (focus (exact opr_call_ls (by rfl) (U1 ..) (by rfl) lpa)); (rintro _ _ ⟨rfl, rfl⟩)) | (apply run_osg 7; (focus rfl); (focus exact wt); (focus rfl); (focus (exact opr_call_ls (by rfl) (U2 ..) (by rfl) lpa)); (rintro _ _ ⟨rfl, rfl⟩))))
      rename_i br
      refine cod_heap (heap_nil _ 38 2) ?_
      (refine cod_loop_rw (σ := Nat × Option Addr × Nat × List (Int × Int)) (fun x => (7 + 2 * x.1 ≤ l.length ∧ x.2.2.2.length = x.1) ∧ x.2.2.2 ++ prs (l.drop (7 + 2 * x.1)) = pI l) (fun x => [(9, .int .i64 ((7 + 2 * x.1 : Nat) : Int))]) (fun x => [own (.slice x.2.1 x.2.2.2.length x.2.2.1) 38 2 x.2.2.2.length (flat fII x.2.2.2), box b [.int .i64 (b0.toNat : Int), .int .i64 (n1 : Int), .int .i64 (n2 : Int), .slice x.2.1 x.2.2.2.length x.2.2.1] 47]) _ (fun x => l.length - 7 - 2 * x.1) ((0, none, 0, [])) (by exact ⟨⟨by show 7 + 2 * 0 ≤ _; omega, rfl⟩, rfl⟩) (by exact fsa) (by (first | exact HSub.of_picks_rest (by exact pca))) (fun ⟨j, q3, c3, ps⟩ ⟨⟨hj, hjl⟩, hps⟩ => ?_); dsimp only [List.cons_append, List.nil_append])
      dsimp only at hj hjl hps ⊢
      rcases Nat.lt_or_ge (7 + 2 * j) l.length with hlt | hge
      · obtain ⟨x, hx⟩ : ∃ x, l[7 + 2 * j]? = some x := ⟨_, List.getElem?_eq_getElem hlt⟩
        obtain ⟨y, hy⟩ : ∃ y, l[7 + 2 * j + 1]? = some y := ⟨_, List.getElem?_eq_getElem (by omega)⟩
        rw [prs_next hx hy] at hps
        have hstep : ((7 + 2 * j : Nat) : Int) + 2 = ((7 + 2 * (j + 1) : Nat) : Int) := by omega
        have hxt := x.toNat_lt
        have hyt := y.toNat_lt
        generalize hi : 7 + 2 * j = i at *
        (repeat' (first | (apply run_qg 1; (focus rfl); (focus exact wt); (focus rfl); (focus (exact qg1))) | (apply run_qg 4; (focus rfl); (focus exact wt); (focus rfl); (focus (first | exact qg4 | exact qs4))) | (apply run_qg 6; (focus rfl); (focus exact wt); (focus rfl); (focus (first | exact qs6 | exact qg6 | exact q_max rfl rfl rfl | exact q_sliceData rfl rfl (by omega) | exact q_sliceDataN rfl rfl | exact q_unsafeStringN rfl rfl rfl | exact q_cap_slice rfl rfl))) | refine cod_seq ?_ | refine cod_region ?_ | refine run_nil ?_ | refine pst_then ?_ | (apply cod_cond_t; (focus rfl)) | refine cod_block ?_ | refine cod_skip ?_))
        (refine cod_drawn_ks (Hq := [_]) [1] [15] rfl (by kernel_rfl) (by simp only [List.length_cons, List.length_nil, Nat.reduceAdd]; rfl) ?_)
        (repeat' (first | (apply drnK_take 1; (focus rfl); (focus rfl); (focus exact wt); (focus (decide +kernel)); (focus exact hsq); (focus rfl); (focus (exact qg1))) | (apply drnK_take 2; (focus rfl); (focus rfl); (focus exact wt); (focus (decide +kernel)); (focus exact hsq); (focus rfl); (focus (first | exact qg2 | exact qs2))) | (apply drnK_take 3; (focus rfl); (focus rfl); (focus exact wt); (focus (decide +kernel)); (focus exact hsq); (focus rfl); (focus (first | exact qg3 | exact qs3))) | (apply drnK_take 4; (focus rfl); (focus rfl); (focus exact wt); (focus (decide +kernel)); (focus exact hsq); (focus rfl); (focus (first | exact qg4 | exact qs4))) | (apply drnK_take 5; (focus rfl); (focus rfl); (focus exact wt); (focus (decide +kernel)); (focus exact hsq); (focus rfl); (focus (exact qg5))) | (apply drnK_take 11; (focus rfl); (focus rfl); (focus exact wt); (focus (decide +kernel)); (focus exact hsq); (focus rfl); (focus (exact qs11))) | (apply drnK_done; (focus (decide +kernel))) | (apply drnK_skip; (focus rfl)) | (apply drnK_wrap; (focus rfl))))
        (refine drnK_at 12 ?_; (first | refine drnK_ones _ (by rfl) (by rfl) (by kernel_rfl) wt (by rfl) (by exact opr_buildSlice rfl rfl rfl (by exact blda) rfl rfl (by decide) rfl) ?_ | refine drnK_onen _ (by rfl) (by rfl) (by kernel_rfl) wt (by exact opr_buildSlice rfl rfl rfl (by exact blda) rfl rfl (by decide) rfl) ?_); rintro _ _ ⟨q9, rfl, rfl⟩; refine ⟨(by first | exact fun h => absurd h (by decide) | exact fun _ => hsq), ?_⟩; (try dsimp only [List.cons_append, List.nil_append]))
        (refine drnK_at 13 ?_; (first | refine drnK_ones _ (by rfl) (by rfl) (by kernel_rfl) wt (by rfl) (by exact (by first | exact opr_append_lit0 (fII) [((x.toNat : Int), (y.toNat : Int))] rfl rfl rfl (by exact pka) (by rfl) (by rfl) (by intro _; rfl) (by (first | exact one_fS | exact one_fI | exact one_fB | exact one_fP | exact one_fIIS | exact one_fIIIS | exact one_fII | exact one_fSI | exact one_fIIU | exact one_fY | exact one_fBl | exact one_fT | exact one_fE | assumption)) rfl (by simp only [List.length_cons, List.length_nil]; omega) (by (unfold maxLen); simp only [List.length_cons, List.length_nil]; omega) | exact opr_append_lit (fII) [((x.toNat : Int), (y.toNat : Int))] rfl rfl rfl (by exact pka) (by exact pka) (by rfl) (by rfl) (by first | rfl | omega) (by intro _; rfl) (by (first | exact one_fS | exact one_fI | exact one_fB | exact one_fP | exact one_fIIS | exact one_fIIIS | exact one_fII | exact one_fSI | exact one_fIIU | exact one_fY | exact one_fBl | exact one_fT | exact one_fE | assumption)) rfl (by simp only [List.length_cons, List.length_nil]; omega) (by (unfold maxLen); simp only [List.length_cons, List.length_nil]; omega))) ?_ | refine drnK_onen _ (by rfl) (by rfl) (by kernel_rfl) wt (by exact (by first | exact opr_append_lit0 (fII) [((x.toNat : Int), (y.toNat : Int))] rfl rfl rfl (by exact pka) (by rfl) (by rfl) (by intro _; rfl) (by (first | exact one_fS | exact one_fI | exact one_fB | exact one_fP | exact one_fIIS | exact one_fIIIS | exact one_fII | exact one_fSI | exact one_fIIU | exact one_fY | exact one_fBl | exact one_fT | exact one_fE | assumption)) rfl (by simp only [List.length_cons, List.length_nil]; omega) (by (unfold maxLen); simp only [List.length_cons, List.length_nil]; omega) | exact opr_append_lit (fII) [((x.toNat : Int), (y.toNat : Int))] rfl rfl rfl (by exact pka) (by exact pka) (by rfl) (by rfl) (by first | rfl | omega) (by intro _; rfl) (by (first | exact one_fS | exact one_fI | exact one_fB | exact one_fP | exact one_fIIS | exact one_fIIIS | exact one_fII | exact one_fSI | exact one_fIIU | exact one_fY | exact one_fBl | exact one_fT | exact one_fE | assumption)) rfl (by simp only [List.length_cons, List.length_nil]; omega) (by (unfold maxLen); simp only [List.length_cons, List.length_nil]; omega))) ?_); rintro _ _ ⟨q4, c4, rfl, rfl⟩; refine ⟨(by first | exact fun h => absurd h (by decide) | exact fun _ => hsq), ?_⟩; (try dsimp only [List.cons_append, List.nil_append]))
        (repeat' (first | (apply run_qg 1; (focus rfl); (focus exact wt); (focus rfl); (focus (exact qg1))) | (apply run_qg 4; (focus rfl); (focus exact wt); (focus rfl); (focus (first | exact qg4 | exact qs4))) | refine cod_region ?_ | refine run_nil ?_ | refine pst_then ?_ | refine pst_block ?_ | (apply drnK_take 3; (focus rfl); (focus rfl); (focus exact wt); (focus (decide +kernel)); (focus exact hsq); (focus rfl); (focus (first | exact qg3 | exact qs3))) | (apply drnK_onen 9; (focus rfl); (focus rfl); (focus (decide +kernel)); (focus exact wt); (focus (exact opr_store_box_one rfl rfl rfl rfl (by exact pka) rfl (by exact seta))); (rintro _ _ ⟨rfl, rfl⟩; refine ⟨(by first | exact fun h => absurd h (by decide) | exact fun _ => hsq), ?_⟩)) | (apply drnK_end; (focus (decide +kernel)))))
        rw [hstep]
        refine pst_again ((j + 1, q4, c4, ps ++ [((x.toNat : Int), (y.toNat : Int))])) ?_ (FSub.of (by (try dsimp only); exact fsa)) (by (try dsimp only); exact hsa) ?_
        · refine ⟨⟨by dsimp only; omega, by dsimp only; rw [List.length_append, List.length_singleton, hjl]⟩, ?_⟩
          dsimp only
          rw [List.append_assoc, show 7 + 2 * (j + 1) = i + 2 by omega]
          exact hps
        · dsimp only; omega
      · rw [prs_end (by omega), List.append_nil] at hps
        subst hps
        by_cases hc0 : ce = 0
        · subst hc0
          (repeat' (first | (apply run_qg 1; (focus rfl); (focus exact wt); (focus rfl); (focus (exact qg1))) | (apply run_qg 2; (focus rfl); (focus exact wt); (focus rfl); (focus (first | exact qg2 | exact qs2))) | (apply run_qg 4; (focus rfl); (focus exact wt); (focus rfl); (focus (first | exact qg4 | exact qs4))) | (apply run_qg 6; (focus rfl); (focus exact wt); (focus rfl); (focus (first | exact qs6 | exact qg6 | exact q_max rfl rfl rfl | exact q_sliceData rfl rfl (by omega) | exact q_sliceDataN rfl rfl | exact q_unsafeStringN rfl rfl rfl | exact q_cap_slice rfl rfl))) | refine cod_seq ?_ | refine cod_region ?_ | refine run_nil ?_ | refine pst_then ?_ | (apply cod_cond_f; (focus rfl)) | refine cod_exit ?_ | refine cod_ret ?_ | refine cod_skip ?_ | refine pst_block_here ?_ | refine pst_then_exit ?_ | (apply run_ong 9; (focus rfl); (focus exact wt); (focus (exact opr_store_box_agg rfl rfl rfl (by exact pka) rfl rfl rfl (by exact spla))); (rintro _ _ ⟨rfl, rfl⟩)) | (apply run_osg 7; (focus rfl); (focus exact wt); (focus rfl); (focus (exact opr_call_ls (by rfl) (CK ..) (by rfl) lpa)); (rintro _ _ ⟨rfl, rfl⟩))))
          exact pst_fin rfl (by exact resa) _ (.inl ⟨hgood.2 rfl, q3, c3, rfl, rfl⟩) (by exact hsa)
        · (repeat' (first | (apply run_qg 1; (focus rfl); (focus exact wt); (focus rfl); (focus (exact qg1))) | (apply run_qg 2; (focus rfl); (focus exact wt); (focus rfl); (focus (first | exact qg2 | exact qs2))) | (apply run_qg 4; (focus rfl); (focus exact wt); (focus rfl); (focus (first | exact qg4 | exact qs4))) | (apply run_qg 5; (focus rfl); (focus exact wt); (focus rfl); (focus (exact qg5))) | (apply run_qg 6; (focus rfl); (focus exact wt); (focus rfl); (focus (first | exact qs6 | exact qg6 | exact q_max rfl rfl rfl | exact q_sliceData rfl rfl (by omega) | exact q_sliceDataN rfl rfl | exact q_unsafeStringN rfl rfl rfl | exact q_cap_slice rfl rfl))) | refine cod_seq ?_ | refine cod_region ?_ | refine run_nil ?_ | refine pst_then ?_ | (apply cod_cond_t; (focus rfl)) | (apply cod_cond_f; (focus rfl)) | refine cod_exit ?_ | refine cod_ret ?_ | refine pst_block_here ?_ | refine pst_then_exit ?_ | refine pst_then_ret ?_ | (apply run_ong 9; (focus rfl); (focus exact wt); (focus (exact opr_store_box_agg rfl rfl rfl (by exact pka) rfl rfl rfl (by exact spla))); (rintro _ _ ⟨rfl, rfl⟩)) | (apply run_osg 7; (focus rfl); (focus exact wt); (focus rfl); (focus (exact opr_call_ls (by rfl) (CK ..) (by rfl) lpa)); (rintro _ _ ⟨rfl, rfl⟩))))
          exact pst_fin rfl (by exact resa) _ (.inr ⟨fun h => hc0 (hgood.1 h), rfl, rfl⟩) (by exact hsa)
end Go.Proofs.Ytcbpeampjhegcaa.inode
