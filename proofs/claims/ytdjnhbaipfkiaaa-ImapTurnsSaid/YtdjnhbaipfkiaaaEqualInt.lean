/-
  slices.Equal of ints.
-/
import Derived.Test.YtdjnhbaipfkiaaaMore
import Derived.Test.YtdjnhbaipfkiaaaPut
namespace Go.Proofs.Ytdjnhbaipfkiaaa.eqint
open Go.RowKit kit
set_option linter.unusedVariables false

set_option maxRecDepth 100000 in
theorem equal_any (a b : Value) (xs ys : List Int) (W : World) (ha : SliceAt W 1 a (xs.map fun x => [Value.int .i64 x])) (hb : SliceAt W 1 b (ys.map fun x => [Value.int .i64 x])) (hn : xs.length ≤ 1000000000000000) (hm : ys.length ≤ 1000000000000000) :
    Calls Try.prog 25 #[a, b] W fun e w' => e = .returned (.bool (decide (xs = ys))) ∧ W.grownBy w' none := by
  obtain ⟨qa, ca, ba, oa, rfl, hqa, hca⟩ := ha.view
  obtain ⟨qb, cb, bb, ob, rfl, hqb, hcb⟩ := hb.view
  clear ha hb
  simp only [List.length_map] at hqa hqb ⊢
  have HA := Lib.hid hqa
  have HB := Lib.hid hqb
  have HCA : Hid (∀ k x, xs[k]? = some x → W.cell? ⟨ba, oa + k, none⟩ = some (.int .i64 x)) := fun k x hx => by
    have := hca k _ (by rw [List.getElem?_map, hx]; rfl) 0 _ rfl
    simpa [Nat.mul_one] using this
  have HCB : Hid (∀ k x, ys[k]? = some x → W.cell? ⟨bb, ob + k, none⟩ = some (.int .i64 x)) := fun k x hx => by
    have := hcb k _ (by rw [List.getElem?_map, hx]; rfl) 0 _ rfl
    simpa [Nat.mul_one] using this
  clear hqa hqb hca hcb
  by_cases hl : (xs.length : Int) = (ys.length : Int)
  · obtain ⟨n, hn'⟩ : ∃ n, n = xs.length := ⟨_, rfl⟩
    have hl' : ys.length = n := by omega
    rw [hl', ← hn']
    have HN := Lib.hid hn'
    have HL := Lib.hid hl'
    rw [← hn'] at hn
    clear hl hl' hn' hm
    go_enter Try.func25, Try.ntmps25
    go_wp2_with (fail)
    go_loopw [13] (fun y wr => ∃ k : Nat, k ≤ n ∧ y = .int .i64 k ∧ Hid (xs.take k = ys.take k) ∧ W.grownBy wr none) (fun y _ => n - (intOf y).toNat)
    case atStart => exact ⟨0, Nat.zero_le _, rfl, by simp [Hid], grown_refl _ _⟩
    case round =>
      obtain ⟨k, hk, rfl, ht, hgr⟩ := hrel
      by_cases hlt : k < n
      · obtain ⟨rfl, hba⟩ := HA.out k (by rw [← HN.out]; exact hlt)
        obtain ⟨rfl, hbb⟩ := HB.out k (by rw [HL.out]; exact hlt)
        obtain ⟨x, hx⟩ : ∃ x, xs[k]? = some x := ⟨_, List.getElem?_eq_getElem (by rw [← HN.out]; exact hlt)⟩
        obtain ⟨y, hy⟩ : ∃ y, ys[k]? = some y := ⟨_, List.getElem?_eq_getElem (by rw [HL.out]; exact hlt)⟩
        have c1 : wr.cell? ⟨ba, oa + k, none⟩ = some (.int .i64 x) := hgr.cell (HCA.out k x hx) (by simp)
        have c2 : wr.cell? ⟨bb, ob + k, none⟩ = some (.int .i64 y) := hgr.cell (HCB.out k y hy) (by simp)
        have hltI : (k : Int) < (n : Int) := by omega
        have HX := Lib.hid hx
        have HY := Lib.hid hy
        clear hx hy
        by_cases hxy : x = y
        · subst hxy
          have HT := Lib.hid (eq_take HX.out HY.out ht rfl)
          go_wp2_with (fail)
          go_region
          go_wp2_with (fail)
          exact ⟨⟨k + 1, by omega, rfl, HT, grown_drew hgr⟩, by show n - (((k : Int) + 1).toNat) < n - ((k : Int).toNat); omega⟩
        · have hne : (x != y) = true := by simpa using hxy
          have hd : decide (xs = ys) = false := by
            rw [decide_eq_false_iff_not]
            intro e
            have := HX.out
            rw [e, HY.out] at this
            exact hxy (Option.some.inj this).symm
          go_wp2_with (fail)
          go_region
          go_wp2_with (fail)
          go_ret
          exact ⟨by rw [hd]; rfl, grown_drew hgr⟩
      · have hke : k = n := by omega
        have hd : decide (xs = ys) = true := by
          rw [decide_eq_true_iff]
          have := ht.out
          rw [hke] at this
          rwa [List.take_of_length_le (by rw [HN.out]; exact Nat.le_refl _), List.take_of_length_le (by rw [HL.out]; exact Nat.le_refl _)] at this
        go_wp2_with (fail)
        go_ret
        exact ⟨by rw [hd]; rfl, hgr⟩
  · have hd : decide (xs = ys) = false := by
      rw [decide_eq_false_iff_not]
      intro e
      rw [e] at hl
      exact hl rfl
    rw [hd]
    go_enter Try.func25, Try.ntmps25
    go_wp2_with (fail)
    go_ret
    exact ⟨rfl, grown_refl _ _⟩
end Go.Proofs.Ytdjnhbaipfkiaaa.eqint
