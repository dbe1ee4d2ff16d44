/-
  linenkeep.widths and slices.Equal of numbers.
-/
import Derived.Test.YtjeocmkdekdlnaaUnpack
import Derived.Deep.RegionHeld3
namespace Go.Proofs.Ytjeocmkdekdlnaa.bits
open Go.RowKit kit
set_option linter.unusedVariables false

theorem tI : SliceTy Try.prog 40 3 1 8 (.int .i64 0) := sliceTy_mk Try.underlying40 (by kernel_rfl) rfl (by decide)

set_option maxRecDepth 100000 in
theorem equal_any (a b : Value) (xs ys : List Int) (W : World) (ha : SliceAt W 1 a (xs.map fun x => [Value.int .u64 x])) (hb : SliceAt W 1 b (ys.map fun x => [Value.int .u64 x])) (hn : xs.length ≤ 1000000000000000) (hm : ys.length ≤ 1000000000000000) :
    Calls Try.prog 26 #[a, b] W fun e w' => e = .returned (.bool (decide (xs = ys))) ∧ W.grownBy w' none := by
  obtain ⟨qa, ca, ba, oa, rfl, hqa, hca⟩ := ha.view
  obtain ⟨qb, cb, bb, ob, rfl, hqb, hcb⟩ := hb.view
  clear ha hb
  simp only [List.length_map] at hqa hqb ⊢
  have HA := Lib.hid hqa
  have HB := Lib.hid hqb
  have HCA : Hid (∀ k x, xs[k]? = some x → W.cell? ⟨ba, oa + k, none⟩ = some (.int .u64 x)) := fun k x hx => by
    have := hca k _ (by rw [List.getElem?_map, hx]; rfl) 0 _ rfl
    simpa [Nat.mul_one] using this
  have HCB : Hid (∀ k x, ys[k]? = some x → W.cell? ⟨bb, ob + k, none⟩ = some (.int .u64 x)) := fun k x hx => by
    have := hcb k _ (by rw [List.getElem?_map, hx]; rfl) 0 _ rfl
    simpa [Nat.mul_one] using this
  clear hqa hqb hca hcb
  by_cases hl : (xs.length : Int) = (ys.length : Int)
  · obtain ⟨n, hn'⟩ : ∃ n, n = xs.length := ⟨_, rfl⟩
    have hl' : ys.length = n := by omega
    rw [hl', ← hn']
    have HN := Lib.hid hn'
    have HL := Lib.hid hl'
    rw [← hn'] at hn
    clear hl hl' hn' hm
    go_enter Try.func26, Try.ntmps26
    go_wp2_with (fail)
    go_loopw [13] (fun y wr => ∃ k : Nat, k ≤ n ∧ y = .int .i64 k ∧ Hid (xs.take k = ys.take k) ∧ W.grownBy wr none) (fun y _ => n - (intOf y).toNat)
    case atStart => exact ⟨0, Nat.zero_le _, rfl, by simp [Hid], grown_refl _ _⟩
    case round =>
      obtain ⟨k, hk, rfl, ht, hgr⟩ := hrel
      by_cases hlt : k < n
      · obtain ⟨rfl, hba⟩ := HA.out k (by rw [← HN.out]; exact hlt)
        obtain ⟨rfl, hbb⟩ := HB.out k (by rw [HL.out]; exact hlt)
        obtain ⟨x, hx⟩ : ∃ x, xs[k]? = some x := ⟨_, List.getElem?_eq_getElem (by rw [← HN.out]; exact hlt)⟩
        obtain ⟨y, hy⟩ : ∃ y, ys[k]? = some y := ⟨_, List.getElem?_eq_getElem (by rw [HL.out]; exact hlt)⟩
        have c1 : wr.cell? ⟨ba, oa + k, none⟩ = some (.int .u64 x) := hgr.cell (HCA.out k x hx) (by simp)
        have c2 : wr.cell? ⟨bb, ob + k, none⟩ = some (.int .u64 y) := hgr.cell (HCB.out k y hy) (by simp)
        have hltI : (k : Int) < (n : Int) := by omega
        have HX := Lib.hid hx
        have HY := Lib.hid hy
        clear hx hy
        by_cases hxy : x = y
        · subst hxy
          have HT := Lib.hid (eq_take HX.out HY.out ht rfl)
          go_wp2_with (fail)
          go_region
          go_wp2_with (fail)
          exact ⟨⟨k + 1, by omega, rfl, HT, grown_drew hgr⟩, by show n - (((k : Int) + 1).toNat) < n - ((k : Int).toNat); omega⟩
        · have hne : (x != y) = true := by simpa using hxy
          have hd : decide (xs = ys) = false := by
            rw [decide_eq_false_iff_not]
            intro e
            have := HX.out
            rw [e, HY.out] at this
            exact hxy (Option.some.inj this).symm
          go_wp2_with (fail)
          go_region
          go_wp2_with (fail)
          go_ret
          exact ⟨by rw [hd]; rfl, grown_drew hgr⟩
      · have hke : k = n := by omega
        have hd : decide (xs = ys) = true := by
          rw [decide_eq_true_iff]
          have := ht.out
          rw [hke] at this
          rwa [List.take_of_length_le (by rw [HN.out]; exact Nat.le_refl _), List.take_of_length_le (by rw [HL.out]; exact Nat.le_refl _)] at this
        go_wp2_with (fail)
        go_ret
        exact ⟨by rw [hd]; rfl, hgr⟩
  · have hd : decide (xs = ys) = false := by
      rw [decide_eq_false_iff_not]
      intro e
      rw [e] at hl
      exact hl rfl
    rw [hd]
    go_enter Try.func26, Try.ntmps26
    go_wp2_with (fail)
    go_ret
    exact ⟨rfl, grown_refl _ _⟩

/-- the values of pieces' fields -/
def wCells (l : List (Int × Int)) : List Value := l.map fun p => Value.int .i64 p.2
def vCells (l : List (Int × Int)) : List Value := l.map fun p => Value.int .u64 p.1

set_option maxRecDepth 100000 in
theorem widths_any (v : Value) (xs : List (Int × Int)) (W : World) (hs : SliceAt W 2 v (xs.map rowP)) (hn : xs.length ≤ 8796093022207) :
    Calls Try.prog 32 #[v] W fun e w' => ∃ a b, e = .returned (.tuple #[a, b]) ∧ SliceAt w' 1 a (xs.map fun p => [Value.int .i64 p.2]) ∧ SliceAt w' 1 b (xs.map fun p => [Value.int .u64 p.1]) ∧ Below W.heap.size W w' := by
  obtain ⟨q, cap, b, off, rfl, hq, hc⟩ := hs.view
  simp only [List.length_map] at hq ⊢
  have HQ := Lib.hid hq
  have HC : Hid (∀ k p, xs[k]? = some p → W.cell? ⟨b, off + k * 2, none⟩ = some (.int .u64 p.1) ∧ W.cell? ⟨b, off + k * 2 + 1, none⟩ = some (.int .i64 p.2)) := fun k p hx => by
    have := hc k _ (by rw [List.getElem?_map, hx]; rfl)
    exact ⟨this 0 _ rfl, this 1 _ rfl⟩
  clear hs hq hc
  go_enter Try.func32, Try.ntmps32
  go_wp2_with (fail)
  go_loopw [2, 3, 8] (fun a c y wr => ∃ k : Nat, k ≤ xs.length ∧ y = .int .i64 k ∧ wr.ownsRow W.heap.size 3 1 a k (wCells (xs.take k)) ∧ wr.ownsRow W.heap.size 22 1 c k (vCells (xs.take k)) ∧ Below W.heap.size W wr) (fun _ _ y _ => xs.length - (intOf y).toNat)
  case atStart => exact ⟨0, Nat.zero_le _, rfl, World.ownsRow_nil _ _ _ _, World.ownsRow_nil _ _ _ _, Below.refl _ _⟩
  case round =>
    obtain ⟨k, hk, rfl, ha, hv, hb⟩ := hrel
    by_cases hlt : k < xs.length
    · obtain ⟨rfl, hblk⟩ := HQ.out k hlt
      obtain ⟨⟨p1, p2⟩, hp⟩ : ∃ p, xs[k]? = some p := ⟨_, List.getElem?_eq_getElem hlt⟩
      have hc0 : wr.cell? ⟨b, off + k * 2, none⟩ = some (.int .u64 p1) := (hb.cell (p := ⟨b, off + k * 2, none⟩) hblk).trans (HC.out k _ hp).1
      have hc1 : wr.cell? ⟨b, off + k * 2 + 1, none⟩ = some (.int .i64 p2) := (hb.cell (p := ⟨b, off + k * 2 + 1, none⟩) hblk).trans (HC.out k _ hp).2
      have hltI : (k : Int) < (xs.length : Int) := by omega
      have HP := Lib.hid hp
      clear hp
      have hsz := hb.size
      have h63 : k + 1 ≤ maxLen := by unfold maxLen; omega
      have hby : (k + 1) * 8 ≤ 140737488355328 := by omega
      go_wp2_with (fail)
      have hap := (own_apart hv ha (by decide))
      go_region_held3 (fun w' => w'.cell? ⟨wr.heap.size, 0, none⟩ = some (.int .u64 p1) ∧ w'.cell? ⟨wr.heap.size, 1, none⟩ = some (.int .i64 p2)) (first | go_keep | exact ⟨hk1 _ _ (by repeat (first | exact cell_new (by simp) rfl | refine cell_old ?_)) (by first | omega | (simp <;> omega)), hk1 _ _ (by repeat (first | exact cell_new (by simp) rfl | refine cell_old ?_)) (by first | omega | (simp <;> omega))⟩ | exact ⟨hk2 _ _ (by repeat (first | exact cell_new (by simp) rfl | refine cell_old ?_)) (by first | omega | (simp <;> omega)), hk2 _ _ (by repeat (first | exact cell_new (by simp) rfl | refine cell_old ?_)) (by first | omega | (simp <;> omega))⟩)
        (first
          | (refine step_app1s tI (by rfl) _ _ (by rfl) u2 (Value.int .i64 p2) k (wCells (xs.take k)) (by rfl) _ (by rfl) (by repeat (first | exact cell_new (by simp) rfl | refine cell_old ?_)) (own_ext ha (by repeat (first | exact grown_refl _ _ | refine grown_al ?_ _ | refine grown_drew ?_))) (by rfl) hby h63 (below_ext hb (by repeat (first | exact grown_refl _ _ | refine grown_al ?_ _ | refine grown_drew ?_))) (by simp; omega) ?_
             intro g1 cap1 w1 hown1 hgr1 hbel1 hBg1 hgl1
             have hk1 := fun (ad : Addr) (v : Value) (h : World.cell? _ ad = some v) (hl : wr.heap.size ≤ ad.block) => hgr1.cell h (own_lt ha hl)
             have hv1 := (own_ext hv (by repeat (first | exact grown_refl _ _ | refine grown_al ?_ _ | refine grown_drew ?_))).kept hgr1 hap)
          | (refine step_app1s t64 (by rfl) _ _ (by rfl) u3 (Value.int .u64 p1) k (vCells (xs.take k)) (by rfl) _ (by rfl) (by first | exact cell_new (by simp) rfl | exact hk1 _ _ (by repeat (first | exact cell_new (by simp) rfl | refine cell_old ?_)) (by first | omega | (simp <;> omega))) (own_ext hv1 (by repeat (first | exact grown_refl _ _ | refine grown_al ?_ _ | refine grown_drew ?_))) (by rfl) hby h63 (below_ext hbel1 (by repeat (first | exact grown_refl _ _ | refine grown_al ?_ _ | refine grown_drew ?_))) (Nat.le_trans hbel1.size (by simp)) ?_
             intro g2 cap2 w2 hown2 hgr2 hbel2 hBg2 hgl2
             have hown1' := (own_ext hown1 (by repeat (first | exact grown_refl _ _ | refine grown_al ?_ _ | refine grown_drew ?_))).kept hgr2 (own_apart hown1 hv1 (by decide))
             have hk2 := fun (ad : Addr) (v : Value) (h : World.cell? _ ad = some v) (hl : wr.heap.size ≤ ad.block) => hgr2.cell (World.grownBy.cell (w := w1) (row := none) (by repeat (first | exact grown_refl _ _ | refine grown_al ?_ _ | refine grown_drew ?_)) (hk1 ad v h hl) (by simp)) (own_lt hv hl)))
      all_goals
        have e1 : wCells (xs.take k) ++ [Value.int .i64 p2] = wCells (xs.take (k + 1)) := by rw [take_one HP.out]; simp [wCells]
        have e2 : vCells (xs.take k) ++ [Value.int .u64 p1] = vCells (xs.take (k + 1)) := by rw [take_one HP.out]; simp [vCells]
        rw [e1] at hown1'
        rw [e2] at hown2
        clear e1 e2 hown1 hv1 hgr1 hgr2 hk1 hk2 ha hv hap hbel1
        go_wp2_with (fail)
        exact ⟨⟨k + 1, by omega, rfl, hown1', hown2, hbel2⟩, by show xs.length - (((k : Int) + 1).toNat) < xs.length - ((k : Int).toNat); omega⟩
    · have hke : k = xs.length := by omega
      subst hke
      rw [List.take_length] at ha hv
      have ha2 := own_slice rfl ha
      have hv2 := own_slice rfl hv
      clear ha hv
      go_wp2_with (fail)
      go_ret2
      exact ⟨_, _, rfl, ha2, hv2, hb⟩
end Go.Proofs.Ytjeocmkdekdlnaa.bits
