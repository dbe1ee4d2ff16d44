/-
  LensFree: the plain law, and the walk.
-/
import Derived.Test.YtjfcoccfkkghaaaKraft
import Derived.Test.YtjfcoccfkkghaaaEqualInt
namespace Go.Proofs.Ytjfcoccfkkghaaa.lawLensFree
open Go.RowKit kit Go.Proofs.Ytjfcoccfkkghaaa.lens
set_option linter.unusedVariables false

theorem cnt_mono (l : List Int) (i k w : Nat) (h : i ≤ k) : cnt (l.take i) w ≤ cnt (l.take k) w := by
  have h1 := cnt_take (l.take k) i w
  rw [List.take_take, Nat.min_eq_left h] at h1
  exact h1
theorem atS_same (l : List Int) (w i k : Nat) (h : i ≤ k) : atS l w i ≤ atS l w k := by
  unfold atS
  have := Nat.mul_le_mul_right (2 ^ (15 - w)) (cnt_mono l i k w h)
  omega
theorem atS_less (l : List Int) (v w i k : Nat) (h1 : 1 ≤ v) (h : v < w) (hi : i ≤ l.length) : atS l v i ≤ atS l w k := by
  have h2 := atS_same l v i l.length hi
  rw [atS_end _ _ h1] at h2
  have h3 := sumA_mono l (v + 1) w (by omega)
  have h4 : atS l (v + 1) 0 = sumA l (v + 1) := by simp [atS, cnt]
  rw [h4] at h2
  unfold atS at h2 ⊢
  omega
/-- no code begins with another one -/
theorem free {l : List Int} {i k v w : Nat} (hi : l[i]? = some (v : Int)) (hk : l[k]? = some (w : Int)) (hne : i ≠ k) (h1 : 1 ≤ v) (hvw : v ≤ w) (h15 : w ≤ 15) : codeAt l k / 2 ^ (w - v) ≠ codeAt l i := by
  intro e
  have hil := (List.getElem?_eq_some_iff.1 hi).1
  have hkl := (List.getElem?_eq_some_iff.1 hk).1
  have a1 := atS_code hi h1 (by omega)
  have a2 := atS_next hi v
  rw [if_pos rfl] at a2
  have b1 := atS_code hk (by omega) h15
  have b2 := atS_next hk w
  rw [if_pos rfl] at b2
  have hp : 0 < 2 ^ (w - v) := Nat.two_pow_pos _
  have hq : 0 < 2 ^ (15 - w) := Nat.two_pow_pos _
  have h3 : codeAt l i * 2 ^ (w - v) ≤ codeAt l k := by rw [← e]; exact Nat.div_mul_le_self _ _
  have h4 : codeAt l k < (codeAt l i + 1) * 2 ^ (w - v) := by rw [← e, Nat.mul_comm]; exact Nat.lt_mul_div_succ _ hp
  have hpow : 2 ^ (15 - v) = 2 ^ (w - v) * 2 ^ (15 - w) := by rw [← Nat.pow_add]; congr 1; omega
  have h5 : atS l v i ≤ atS l w k := by
    rw [← a1, ← b1, hpow, ← Nat.mul_assoc]; exact Nat.mul_le_mul_right _ h3
  have h6 : atS l w k < atS l v (i + 1) := by
    rw [a2, ← a1, ← b1, hpow, ← Nat.mul_assoc, ← Nat.add_mul, ← Nat.succ_mul]
    exact Nat.mul_lt_mul_of_pos_right h4 hq
  rcases Nat.lt_or_ge v w with h | h
  · have := atS_less l v w (i + 1) k h1 h (by omega)
    omega
  · have hvw2 : v = w := by omega
    subst hvw2
    rcases Nat.lt_or_ge i k with h7 | h7
    · have := atS_same l v (i + 1) k (by omega)
      omega
    · have := atS_same l v (k + 1) i (by omega)
      omega

theorem last : canonE [2, 1, 2] = 0 ∧ codeAt [2, 1, 2] 0 = 2 ∧ codeAt [2, 1, 2] 1 = 0 ∧ codeAt [2, 1, 2] 2 = 3 := by decide
theorem row_slice {w : World} {G e n : Nat} {f : Nat → Nat} (h : w.rowIs G e n (fun i => iv (f i))) (hn : n ≤ maxLen) (l : List Int) (hl : l.length = n) (hf : ∀ i x, l[i]? = some x → x = (f i : Int)) : SliceAt w 1 (.slice (some ⟨G, 0, none⟩) n n) (l.map fun x => [Value.int .i64 x]) := by
  subst hl
  by_cases h0 : l.length = 0
  · left
    exact ⟨by simpa using h0, .inr ⟨_, _, by rw [h0]⟩⟩
  · right
    refine ⟨G, 0, l.length, by simp, by simp, hn, by simp; omega, h.lt, ?_⟩
    intro i r hi
    rw [List.getElem?_map] at hi
    obtain ⟨x, hx, rfl⟩ := Option.map_eq_some_iff.1 hi
    refine ⟨rfl, fun j y hy => ?_⟩
    have hj : j = 0 := by have := (List.getElem?_eq_some_iff.1 hy).1; simp at this; omega
    subst hj
    have hy1 := Option.some.inj hy
    subst hy1
    have := h.cell (List.getElem?_eq_some_iff.1 hx).1
    rw [hf i x hx]
    simpa [iv] using this

set_option maxHeartbeats 1000000 in
set_option maxRecDepth 100000 in
theorem walk (W : World) (v : Value) (xs : List Int) (hs : SliceAt W 1 v (xs.map fun z : Int => [Value.int .i64 z])) (hg : ∀ z ∈ xs, (Lit.int .i64 z).wf = true) (hn : xs.length * Try.prog.bytesOf 3 ≤ reachBytes) :
    Calls Try.prog 8 #[v] W fun e w' => e = .returned (.bool true) ∧ Below W.heap.size W w' := by
  have hr : reachBytes = 140737488351232 := rfl
  have hby : Try.prog.bytesOf 3 = 8 := by kernel_rfl
  rw [hr, hby] at hn
  have hn2 : xs.length ≤ 1000000000000000 := by omega
  clear hr hby hn
  have hcanon := canon_any v xs W hs hg hn2
  obtain ⟨q, cap, b, off, rfl, hq, hc⟩ := hs.view
  have hlen : (xs.map fun z : Int => [Value.int .i64 z]).length = xs.length := by simp
  rw [hlen] at hq hcanon ⊢
  clear hs
  have hlI : (xs.length : Int) ≤ 1000000000000000 := by omega
  have HQ := Lib.hid hq
  have HC : Hid (∀ k x, xs[k]? = some x → W.cell? ⟨b, off + k, none⟩ = some (.int .i64 x)) := fun k p hx => by
    have := hc k _ (by rw [List.getElem?_map, hx]; rfl) 0 _ rfl
    simpa [Nat.mul_one] using this
  clear hq hc hlen
  go_enter Try.func8, Try.ntmps8
  go_wp2_with (fail)
  refine hcanon.mono ?_
  rintro e W1 ⟨⟨hE, rfl⟩ | ⟨hE, R, rfl, hR, hrow⟩, hb1⟩
  · have hEb : ((canonE xs : Int) != 0) = true := by simp; omega
    clear hcanon hE
    go_wp2_with (fail)
    go_ret
    exact ⟨rfl, hb1⟩
  · have hL : lensE xs = 0 := by
      unfold canonE at hE
      by_cases h : lensE xs = 0
      · exact h
      · rw [if_pos h] at hE; exact hE
    have hn3 : xs.length ≤ 320 := by
      unfold lensE at hL
      split at hL
      · cases hL
      · omega
    have hbad : badX xs = false := by
      unfold lensE at hL
      rw [if_neg (by omega)] at hL
      cases h : badX xs
      · rfl
      · rw [h] at hL; simp at hL
    have HM : Hid (∀ x ∈ xs, 0 ≤ x ∧ x ≤ 15) := fun x hx => badX_mem hbad hx
    clear hcanon hL hE hbad
    go_wp2_with (fail)
    go_loopw [27] (fun y wr => ∃ i : Nat, i ≤ xs.length ∧ y = .int .i64 i ∧ W1.grownBy wr none) (fun y _ => xs.length - (intOf y).toNat)
    case atStart => exact ⟨0, Nat.zero_le _, rfl, grown_refl _ _⟩
    case round =>
      obtain ⟨i, hi, rfl, hgr⟩ := hrel
      by_cases hlt : i < xs.length
      · obtain ⟨rfl, hblk⟩ := HQ.out i hlt
        obtain ⟨x, hp⟩ : ∃ p, xs[i]? = some p := ⟨_, List.getElem?_eq_getElem hlt⟩
        have hx := HM.out x (List.mem_of_getElem? hp)
        obtain ⟨vi, rfl⟩ : ∃ m : Nat, x = (m : Int) := ⟨x.toNat, by omega⟩
        have hv15 : vi ≤ 15 := by omega
        have hbx := below_ext hb1 hgr
        have hc0 : wr.cell? ⟨b, off + i, none⟩ = some (.int .i64 (vi : Int)) := (hbx.cell (p := ⟨b, off + i, none⟩) hblk).trans (HC.out i _ hp)
        have hltI : (i : Int) < (xs.length : Int) := by omega
        have HP := Lib.hid hp
        obtain ⟨w0, rfl⟩ : ∃ w0, w0 = wr := ⟨_, rfl⟩
        clear hp hx
        go_wp2_with (fail)
        go_loopw [34] (fun y wx => ∃ k : Nat, k ≤ xs.length ∧ y = .int .i64 k ∧ W1.grownBy wx none) (fun y _ => xs.length - (intOf y).toNat)
        case atStart => exact ⟨0, Nat.zero_le _, rfl, hgr⟩
        case round =>
          clear hc0 hbx
          obtain ⟨k, hk, rfl, hgr⟩ := hrel
          by_cases hlk : k < xs.length
          · obtain ⟨y, hq⟩ : ∃ p, xs[k]? = some p := ⟨_, List.getElem?_eq_getElem hlk⟩
            have hy := HM.out y (List.mem_of_getElem? hq)
            obtain ⟨wk, rfl⟩ : ∃ m : Nat, y = (m : Int) := ⟨y.toNat, by omega⟩
            have hw15 : wk ≤ 15 := by omega
            have hbx := below_ext hb1 hgr
            have hc1 : wr.cell? ⟨b, off + k, none⟩ = some (.int .i64 (wk : Int)) := (hbx.cell (p := ⟨b, off + k, none⟩) hblk).trans (HC.out k _ hq)
            have hlkI : (k : Int) < (xs.length : Int) := by omega
            obtain ⟨ci, hci⟩ : ∃ c, c = codeAt xs i := ⟨_, rfl⟩
            obtain ⟨ck, hck⟩ : ∃ c, c = codeAt xs k := ⟨_, rfl⟩
            have d1 : ∀ x' : BW wr, x'.w.cell? ⟨R, i, none⟩ = some (.int .i64 (ci : Int)) := fun x' => by
              have h9 : W1.cell? ⟨R, i, none⟩ = some (.int .i64 (ci : Int)) := by rw [hrow.cell hlt, hci]; rfl
              exact (x'.h.cell (p := ⟨R, i, none⟩) (Nat.lt_of_lt_of_le hrow.lt hgr.size)).trans (hgr.cell h9 (by simp))
            have d2 : ∀ x' : BW wr, x'.w.cell? ⟨R, k, none⟩ = some (.int .i64 (ck : Int)) := fun x' => by
              have h9 : W1.cell? ⟨R, k, none⟩ = some (.int .i64 (ck : Int)) := by rw [hrow.cell hlk, hck]; rfl
              exact (x'.h.cell (p := ⟨R, k, none⟩) (Nat.lt_of_lt_of_le hrow.lt hgr.size)).trans (hgr.cell h9 (by simp))
            by_cases tik : i = k
            · have tb : ((i : Int) != (k : Int)) = false := by simp; omega
              clear hq hy tik hci hck
              go_wp2_with (fail)
              refine wp_region_below (by kernel_rfl) (by kernel_rfl) ?_
              repeat (go_big_quiet_step (fail))
              refine wpQuiet_nil ?_
              rintro _ ⟨wx, rfl⟩
              go_wp2_with (fail)
              exact ⟨⟨k + 1, by omega, rfl, grown_trans hgr (grown_of_below wx.h)⟩, by show xs.length - (((k : Int) + 1).toNat) < xs.length - ((k : Int).toNat); omega⟩
            · have tb : ((i : Int) != (k : Int)) = true := by simp; omega
              by_cases tv : 0 < vi
              · have tvb : decide ((0 : Int) < (vi : Int)) = true := by simp; omega
                by_cases tl : vi ≤ wk
                · have tlb : decide ((vi : Int) ≤ (wk : Int)) = true := by simp; omega
                  have hsub : (wk : Int) - (vi : Int) = ((wk - vi : Nat) : Int) := by omega
                  have hfree := free HP.out hq tik (by omega) tl hw15
                  rw [← hci, ← hck] at hfree
                  obtain ⟨dv, hdv⟩ : ∃ dv : Nat, dv = ck / 2 ^ (wk - vi) := ⟨_, rfl⟩
                  rw [← hdv] at hfree
                  have hdI : (ck : Int) / 2 ^ (wk - vi) = (dv : Int) := by rw [hdv]; simp
                  have hlast : ((dv : Int) == (ci : Int)) = false := by simp; omega
                  clear hq hy tik hci hck hdv hfree
                  go_wp2_with (fail)
                  refine wp_region_below (by kernel_rfl) (by kernel_rfl) ?_
                  repeat (go_big_quiet_step (fail))
                  refine wpQuiet_nil ?_
                  rintro _ ⟨wx, rfl⟩
                  go_wp2_with (fail)
                  exact ⟨⟨k + 1, by omega, rfl, grown_trans hgr (grown_of_below wx.h)⟩, by show xs.length - (((k : Int) + 1).toNat) < xs.length - ((k : Int).toNat); omega⟩
                · have tlb : decide ((vi : Int) ≤ (wk : Int)) = false := by simp; omega
                  clear hq hy tik hci hck
                  go_wp2_with (fail)
                  refine wp_region_below (by kernel_rfl) (by kernel_rfl) ?_
                  repeat (go_big_quiet_step (fail))
                  refine wpQuiet_nil ?_
                  rintro _ ⟨wx, rfl⟩
                  go_wp2_with (fail)
                  exact ⟨⟨k + 1, by omega, rfl, grown_trans hgr (grown_of_below wx.h)⟩, by show xs.length - (((k : Int) + 1).toNat) < xs.length - ((k : Int).toNat); omega⟩
              · have tvb : decide ((0 : Int) < (vi : Int)) = false := by simp; omega
                clear hq hy tik hci hck
                go_wp2_with (fail)
                refine wp_region_below (by kernel_rfl) (by kernel_rfl) ?_
                repeat (go_big_quiet_step (fail))
                refine wpQuiet_nil ?_
                rintro _ ⟨wx, rfl⟩
                go_wp2_with (fail)
                exact ⟨⟨k + 1, by omega, rfl, grown_trans hgr (grown_of_below wx.h)⟩, by show xs.length - (((k : Int) + 1).toNat) < xs.length - ((k : Int).toNat); omega⟩
          · go_wp2_with (fail)
            exact ⟨⟨i + 1, by omega, rfl, hgr⟩, by show xs.length - (((i : Int) + 1).toNat) < xs.length - ((i : Int).toNat); omega⟩
      · have hlast := last
        have hb2 := below_ext hb1 hgr
        go_wp2_with (fail)
        refine (canon_any _ [2, 1, 2] _ (lit_slice [.int .i64 2, .int .i64 1, .int .i64 2] 3 3 rfl (by decide) (by decide) (by decide)) (by decide) (by decide)).mono ?_
        rintro e W3 ⟨hres, hb3⟩
        have hb4 := (hb2.alloc hb2.size (Obj.cells #[Value.int .i64 2, .int .i64 1, .int .i64 2] 3)).trans (hb3.mono (Nat.le_trans hb2.size (by simp)))
        rw [hlast.1] at hres
        rcases hres with ⟨h, _⟩ | ⟨_, Q, rfl, hQ, hrow3⟩
        · exact absurd rfl h
        · have hsl := row_slice hrow3 (by decide) [2, 0, 3] rfl (fun i x hx => by
            match i, hx with
            | 0, hx => rw [hlast.2.1]; simpa using hx.symm
            | 1, hx => rw [hlast.2.2.1]; simpa using hx.symm
            | 2, hx => rw [hlast.2.2.2]; simpa using hx.symm
            | n + 3, hx => simp at hx)
          clear hrow3 hb3 hlast
          go_wp2_with (fail)
          refine (eqint.equal_any _ _ [2, 0, 3] [2, 0, 3] _ (hsl.below (Nat.le_refl _) ((Below.refl _ _).alloc (Nat.le_refl _) _)) (lit_slice [.int .i64 2, .int .i64 0, .int .i64 3] 3 3 rfl (by decide) (by decide) (by decide)) (by decide) (by decide)).mono ?_
          rintro e W4 ⟨rfl, hg4⟩
          have hb5 := below_ext (hb4.alloc hb4.size (Obj.cells #[Value.int .i64 2, .int .i64 0, .int .i64 3] 3)) hg4
          go_wp2_with (fail)
          go_ret
          exact ⟨rfl, hb5⟩
end Go.Proofs.Ytjfcoccfkkghaaa.lawLensFree
