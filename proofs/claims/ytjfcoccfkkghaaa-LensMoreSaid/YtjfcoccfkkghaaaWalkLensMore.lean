/-
  LensMore: the walk.
-/
import Derived.Test.YtjfcoccfkkghaaaKraft
import Derived.Test.YtjfcoccfkkghaaaCloneInt
namespace Go.Proofs.Ytjfcoccfkkghaaa.lawLensMore
open Go.RowKit kit Go.Proofs.Ytjfcoccfkkghaaa.lens Go.Proofs.Ytjfcoccfkkghaaa.cloneint
set_option linter.unusedVariables false

set_option maxHeartbeats 1000000 in
set_option maxRecDepth 100000 in
theorem walk (W : World) (v : Value) (xs : List Int) (hs : SliceAt W 1 v (xs.map fun z : Int => [Value.int .i64 z])) (hg : ∀ z ∈ xs, (Lit.int .i64 z).wf = true) (hn : xs.length * Try.prog.bytesOf 3 ≤ reachBytes) (a : Int) (wa : (Lit.int .i64 a).wf = true) :
    Calls Try.prog 7 #[v, .int .i64 a] W fun e w' => e = .returned (.bool true) ∧ Below W.heap.size W w' := by
  have hr : reachBytes = 140737488351232 := rfl
  have hby : Try.prog.bytesOf 3 = 8 := by kernel_rfl
  rw [hr, hby] at hn
  have hn2 : xs.length ≤ 1000000000000000 := by omega
  clear hr hby hn
  have hfill := fun w hs => fill_any v xs w hs hg hn2
  have hclone := fun w hs hn => clone_any v xs w hs hn
  obtain ⟨q, cap, b, off, rfl, hq, hc⟩ := hs.view
  have hlen : (xs.map fun z : Int => [Value.int .i64 z]).length = xs.length := by simp
  rw [hlen] at hs hq hfill hclone ⊢
  have hlI : (xs.length : Int) ≤ 1000000000000000 := by omega
  clear hq hc hlen
  go_enter Try.func7, Try.ntmps7
  go_wp2_with (fail)
  refine (hfill _ hs).mono ?_
  rintro e W2 ⟨rfl, rfl⟩
  by_cases hL : lensE xs = 0
  · have hF : fillA xs = fillN xs := by rw [fillA, if_pos hL]
    rw [hL, hF]
    by_cases h320 : (xs.length : Int) = 320
    · have hb : ((xs.length : Int) == 320) = true := by simpa using h320
      clear h320 hfill hclone hL hF
      go_wp2_with (fail)
      go_ret
      exact ⟨rfl, Below.refl _ _⟩
    · have hb : ((xs.length : Int) == 320) = false := by simpa using h320
      by_cases h1 : a < 1
      · clear hfill hclone hL hF h320
        go_wp2_with (fail)
        go_ret
        exact ⟨rfl, Below.refl _ _⟩
      · by_cases h15 : 15 < a
        · clear hfill hclone hL hF h320
          go_wp2_with (fail)
          go_ret
          exact ⟨rfl, Below.refl _ _⟩
        · obtain ⟨w, rfl⟩ : ∃ w : Nat, a = (w : Int) := ⟨a.toNat, by omega⟩
          have hn3 : xs.length ≤ 319 := by
            unfold lensE at hL
            split at hL
            · cases hL
            · omega
          have hbad : badX xs = false := by
            unfold lensE at hL
            rw [if_neg (by omega)] at hL
            cases h : badX xs
            · rfl
            · rw [h] at hL; simp at hL
          have hL2 : lensE (xs ++ [(w : Int)]) = 0 := by
            have hb1 : badX (xs ++ [(w : Int)]) = false := by rw [badX_app, hbad, badX, if_neg (by omega)]; rfl
            rw [lensE, if_neg (by simp; omega), if_neg (by rw [hb1]; decide)]
          have hF2 : fillN (xs ++ [(w : Int)]) = fillN xs + 2 ^ (15 - w) := by
            rw [fillN_app, fillN, wt, if_pos (by omega)]; rfl
          have hws : (15 : Int) - (w : Int) = ((15 - w : Nat) : Int) := by omega
          obtain ⟨m, hm⟩ : ∃ m : Nat, m = 2 ^ (15 - w) := ⟨_, rfl⟩
          have hmI : (2 : Int) ^ (15 - w) = (m : Int) := by rw [hm]; simp
          have hm14 : m ≤ 16384 := by rw [hm]; exact Nat.pow_le_pow_right (n := 2) (by decide) (show 15 - w ≤ 14 by omega)
          rw [← hm] at hF2
          have hfl : fillN xs ≤ 16384 * 319 := by have := fillN_le xs; omega
          have HL2 := Lib.hid hL2
          have HF2 := Lib.hid hF2
          have hwI : (w : Int) ≤ 15 := by omega
          clear hfill hL hF h320 hbad hm hL2 hF2
          go_wp2_with (fail)
          refine (hclone _ hs (by omega)).mono ?_
          rintro e W1 ⟨v', rfl, hown, hb1⟩
          have hsz := hb1.size
          clear hclone
          go_wp2_with (at_builtin; refine app1 tI rfl (.tmp 36) (.tmp 38) rfl _ _ xs.length (iCells xs) rfl rfl hown rfl ?c3 ?c4 hb1 hsz ?_)
          case c3 => omega
          case c4 => unfold maxLen; omega
          intro v2 W3 hown2 _ hb3 _
          have hsl : SliceAt W3 1 v2 ((xs ++ [(w : Int)]).map rowI) := by
            have := own_slice (f := fun x : Int => Value.int .i64 x) (xs := xs ++ [(w : Int)]) (n := xs.length + 1) (by simp) (by simpa [iCells] using hown2)
            exact this
          clear hown hown2
          go_wp2_with (fail)
          refine (canon_any v2 _ _ hsl ?c5 (by simp; omega)).mono ?_
          case c5 =>
            intro x hx
            rw [List.mem_append] at hx
            rcases hx with hx | hx
            · exact hg x hx
            · simp only [List.mem_singleton] at hx
              subst hx
              exact wa
          rintro e W4 ⟨hres, hb4⟩
          have hb5 := hb3.trans (hb4.mono hb3.size)
          by_cases hO : (32768 : Int) - (m : Int) < (fillN xs : Int)
          · have hCE : canonE (xs ++ [(w : Int)]) = 6 := by rw [canonE, if_neg (by rw [HL2.out]; decide), if_pos (by rw [HF2.out]; omega)]
            rw [hCE] at hres
            rcases hres with ⟨_, rfl⟩ | ⟨h, _⟩
            · clear hCE hb4 hb3 hsl hb1 hsz
              go_wp2_with (fail)
              go_ret
              exact ⟨rfl, hb5⟩
            · cases h
          · have hCE : canonE (xs ++ [(w : Int)]) = 0 := by rw [canonE, if_neg (by rw [HL2.out]; decide), if_neg (by rw [HF2.out]; omega)]
            rw [hCE] at hres
            rcases hres with ⟨h, _⟩ | ⟨_, R, rfl, _⟩
            · exact absurd rfl h
            · clear hCE hb4 hb3 hsl hb1 hsz
              have hl2 : (xs ++ [(w : Int)]).length = xs.length + 1 := by simp
              rw [hl2]
              go_wp2_with (fail)
              go_ret
              exact ⟨rfl, hb5⟩
  · have hF : fillA xs = 0 := by rw [fillA, if_neg hL]
    have hLb : ((lensE xs : Int) != 0) = true := by simp; omega
    rw [hF]
    clear hfill hclone hF
    go_wp2_with (fail)
    go_ret
    exact ⟨rfl, Below.refl _ _⟩
end Go.Proofs.Ytjfcoccfkkghaaa.lawLensMore
