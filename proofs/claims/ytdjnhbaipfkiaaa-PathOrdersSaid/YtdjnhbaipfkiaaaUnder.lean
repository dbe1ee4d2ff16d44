/-
  path.Under: the walk.
-/
import Derived.Test.YtdjnhbaipfkiaaaRows
import Derived.Test.YtdjnhbaipfkiaaaEqualStr
namespace Go.Proofs.Ytdjnhbaipfkiaaa.path
open Go.RowKit kit
set_option linter.unusedVariables false

def under (xs ys : List ByteArray) : Bool := decide (xs = ys.take xs.length)

set_option maxRecDepth 100000 in
theorem under_any (a b : Value) (xs ys : List ByteArray) (W : World) (ha : SliceAt W 1 a (xs.map fun x => [Value.string x])) (hb : SliceAt W 1 b (ys.map fun x => [Value.string x])) (hn : xs.length ≤ 1000000000000000) (hm : ys.length ≤ 1000000000000000) :
    Calls Try.prog 14 #[a, b] W fun e w' => e = .returned (.bool (under xs ys)) ∧ Below W.heap.size W w' := by
  obtain ⟨qa, ca, ba, oa, rfl, hqa, hca⟩ := ha.view
  obtain ⟨qb, cb, bb, ob, rfl, hqb, hcb⟩ := hb.view
  clear ha hb
  simp only [List.length_map] at hqa hqb ⊢
  have HA := Lib.hid hqa
  have HB := Lib.hid hqb
  have HCA : Hid (∀ k x, xs[k]? = some x → W.cell? ⟨ba, oa + k, none⟩ = some (.string x)) := fun k x hx => by
    have := hca k _ (by rw [List.getElem?_map, hx]; rfl) 0 _ rfl
    simpa [Nat.mul_one] using this
  have HCB : Hid (∀ k x, ys[k]? = some x → W.cell? ⟨bb, ob + k, none⟩ = some (.string x)) := fun k x hx => by
    have := hcb k _ (by rw [List.getElem?_map, hx]; rfl) 0 _ rfl
    simpa [Nat.mul_one] using this
  clear hqa hqb hca hcb
  by_cases hl : (ys.length : Int) < (xs.length : Int)
  · have hU : under xs ys = false := by
      unfold under
      rw [decide_eq_false_iff_not]
      intro h
      have := congrArg List.length h
      simp at this
      omega
    rw [hU]
    clear hU
    go_enter Try.func14, Try.ntmps14
    go_wp2_with (fail)
    go_ret
    exact ⟨rfl, Below.refl _ _⟩
  · have hle : xs.length ≤ ys.length := by omega
    go_enter Try.func14, Try.ntmps14
    go_wp2_with (fail)
    go_loopw [13] (fun y wr => ∃ k : Nat, k ≤ xs.length ∧ y = .int .i64 k ∧ Hid (xs.take k = ys.take k) ∧ Below W.heap.size W wr) (fun y _ => xs.length - (intOf y).toNat)
    case atStart => exact ⟨0, Nat.zero_le _, rfl, by simp [Hid], Below.refl _ _⟩
    case round =>
      obtain ⟨k, hk, rfl, ht, hgr⟩ := hrel
      by_cases hlt : k < xs.length
      · obtain ⟨rfl, hba⟩ := HA.out k hlt
        obtain ⟨rfl, hbb⟩ := HB.out k (by omega)
        obtain ⟨x, hx⟩ : ∃ x, xs[k]? = some x := ⟨_, List.getElem?_eq_getElem hlt⟩
        obtain ⟨y, hy⟩ : ∃ y, ys[k]? = some y := ⟨_, List.getElem?_eq_getElem (by omega)⟩
        have c1 : ∀ x' : BW wr, x'.w.cell? ⟨ba, oa + k, none⟩ = some (.string x) := fun x' => ((hgr.trans (x'.h.mono hgr.size)).cell (p := ⟨ba, oa + k, none⟩) hba).trans (HCA.out k x hx)
        have c2 : ∀ x' : BW wr, x'.w.cell? ⟨bb, ob + k, none⟩ = some (.string y) := fun x' => ((hgr.trans (x'.h.mono hgr.size)).cell (p := ⟨bb, ob + k, none⟩) hbb).trans (HCB.out k y hy)
        have hltI : (k : Int) < (xs.length : Int) := by omega
        have hltJ : (k : Int) < (ys.length : Int) := by omega
        have HX := Lib.hid hx
        have HY := Lib.hid hy
        clear hx hy
        by_cases hxy : x = y
        · subst hxy
          have HT := Lib.hid (eqstr.take_same HX.out HY.out ht rfl)
          go_wp2_with (fail)
          refine wp_region_below (by kernel_rfl) (by kernel_rfl) ?_
          repeat (go_big_quiet_step (fail))
          refine wpQuiet_nil ?_
          rintro _ ⟨wx, rfl⟩
          have hb5 := below_ext hgr (grown_of_below wx.h)
          generalize wx.w = w5 at hb5 ⊢
          clear wx
          go_wp2_with (fail)
          exact ⟨⟨k + 1, by omega, rfl, HT, hb5⟩, by show xs.length - (((k : Int) + 1).toNat) < xs.length - ((k : Int).toNat); omega⟩
        · have hne : (x.toList == y.toList) = false := eqstr.str_ne hxy
          have hd : under xs ys = false := by
            unfold under
            rw [decide_eq_false_iff_not]
            intro e
            have h1 := HX.out
            rw [e, List.getElem?_take, if_pos hlt, HY.out] at h1
            exact hxy (Option.some.inj h1).symm
          go_wp2_with (fail)
          refine wp_region_below (by kernel_rfl) (by kernel_rfl) ?_
          repeat (go_big_quiet_step (fail))
          refine wpQuiet_nil ?_
          rintro _ ⟨wx, rfl⟩
          have hb5 := below_ext hgr (grown_of_below wx.h)
          generalize wx.w = w5 at hb5 ⊢
          clear wx
          go_wp2_with (fail)
          go_ret
          exact ⟨by rw [hd]; rfl, hb5⟩
      · have hke : k = xs.length := by omega
        subst hke
        rw [List.take_length] at ht
        have hd : under xs ys = true := by unfold under; rw [decide_eq_true_iff]; exact ht
        go_wp2_with (fail)
        go_ret
        exact ⟨by rw [hd]; rfl, hgr⟩
end Go.Proofs.Ytdjnhbaipfkiaaa.path
