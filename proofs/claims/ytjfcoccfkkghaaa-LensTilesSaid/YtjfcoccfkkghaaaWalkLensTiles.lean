/-
  LensTiles: the walk.
-/
import Derived.Test.YtjfcoccfkkghaaaKraft
namespace Go.Proofs.Ytjfcoccfkkghaaa.lawLensTiles
open Go.RowKit kit Go.Proofs.Ytjfcoccfkkghaaa.lens
set_option linter.unusedVariables false

theorem last : fillA [1, 15] = 16385 ∧ lensE [1, 15] = 0 := by decide

set_option maxHeartbeats 1000000 in
set_option maxRecDepth 100000 in
theorem walk (W : World) (v : Value) (xs : List Int) (hs : SliceAt W 1 v (xs.map fun z : Int => [Value.int .i64 z])) (hg : ∀ z ∈ xs, (Lit.int .i64 z).wf = true) (hn : xs.length * Try.prog.bytesOf 3 ≤ reachBytes) :
    Calls Try.prog 6 #[v] W fun e w' => e = .returned (.bool true) ∧ Below W.heap.size W w' := by
  have hr : reachBytes = 140737488351232 := rfl
  have hby : Try.prog.bytesOf 3 = 8 := by kernel_rfl
  rw [hr, hby] at hn
  have hn2 : xs.length ≤ 1000000000000000 := by omega
  clear hr hby hn
  have hcanon := canon_any v xs W hs hg hn2
  have hfill := fun w hs => fill_any v xs w hs hg hn2
  obtain ⟨q, cap, b, off, rfl, hq, hc⟩ := hs.view
  have hlen : (xs.map fun z : Int => [Value.int .i64 z]).length = xs.length := by simp
  rw [hlen] at hs hq hcanon hfill ⊢
  have hlI : (xs.length : Int) ≤ 1000000000000000 := by omega
  have HQ := Lib.hid hq
  have HC : Hid (∀ k x, xs[k]? = some x → W.cell? ⟨b, off + k, none⟩ = some (.int .i64 x)) := fun k p hx => by
    have := hc k _ (by rw [List.getElem?_map, hx]; rfl) 0 _ rfl
    simpa [Nat.mul_one] using this
  clear hq hc hlen
  go_enter Try.func6, Try.ntmps6
  go_wp2_with (fail)
  refine hcanon.mono ?_
  rintro e W1 ⟨⟨hE, rfl⟩ | ⟨hE, R, rfl, hR, hrow⟩, hb1⟩
  · go_wp2_with (fail)
    refine (hfill _ (hs.below (Nat.le_refl _) hb1)).mono ?_
    rintro e W2 ⟨rfl, rfl⟩
    have hEb : ((canonE xs : Int) != 0) = true := by simp; omega
    by_cases hL : lensE xs = 0
    · have hC : canonE xs = 6 ∧ 32768 < fillN xs := by
        unfold canonE at hE ⊢
        rw [if_neg (by omega)] at hE ⊢
        split
        · exact ⟨rfl, by assumption⟩
        · rename_i h; rw [if_neg h] at hE; exact absurd rfl hE
      have hF : fillA xs = fillN xs := by rw [fillA, if_pos hL]
      have hFI : (32768 : Int) < (fillN xs : Int) := by omega
      rw [hC.1] at hEb
      rw [hC.1, hL, hF]
      clear hE hcanon hfill hL hF
      go_wp2_with (fail)
      go_ret
      exact ⟨rfl, hb1⟩
    · have hC : canonE xs = lensE xs := by rw [canonE, if_pos hL]
      have hLb : ((lensE xs : Int) != 0) = true := by simp; omega
      rw [hC] at hEb ⊢
      clear hE hcanon hfill
      go_wp2_with (fail)
      go_ret
      exact ⟨rfl, hb1⟩
  · have hL : lensE xs = 0 := by
      unfold canonE at hE
      by_cases h : lensE xs = 0
      · exact h
      · rw [if_pos h] at hE; exact hE
    have hF : fillA xs = fillN xs := by rw [fillA, if_pos hL]
    have hO : fillN xs ≤ 32768 := by
      unfold canonE at hE
      rw [if_neg (by omega)] at hE
      split at hE
      · cases hE
      · omega
    have hn3 : xs.length ≤ 320 := by
      unfold lensE at hL
      split at hL
      · cases hL
      · omega
    have hbad : badX xs = false := by
      unfold lensE at hL
      rw [if_neg (by omega)] at hL
      cases h : badX xs
      · rfl
      · rw [h] at hL; simp at hL
    have HM : Hid (∀ x ∈ xs, 0 ≤ x ∧ x ≤ 15) := fun x hx => badX_mem hbad hx
    go_wp2_with (fail)
    refine (hfill _ (hs.below (Nat.le_refl _) hb1)).mono ?_
    rintro e W2 ⟨rfl, rfl⟩
    rw [hL, hF]
    obtain ⟨N, hN⟩ : ∃ N, N = fillN xs := ⟨_, rfl⟩
    rw [← hN] at hO ⊢
    have HN := Lib.hid hN
    clear hcanon hfill hL hF hE hbad hN
    go_wp2_with (fail)
    go_loopw [7, 8] (fun z y wr => ∃ w at0 : Nat, 1 ≤ w ∧ w ≤ 16 ∧ z = .int .i64 at0 ∧ y = .int .i64 w ∧ at0 = atS xs w 0 ∧ W1 = wr) (fun _ y _ => 16 - (intOf y).toNat)
    case atStart => exact ⟨1, 0, by omega, by omega, rfl, rfl, by simp [atS, sumA, cnt], rfl⟩
    case round =>
      obtain ⟨w, at0, hw1, hw16, rfl, rfl, hat, rfl⟩ := hrel
      by_cases hw : w ≤ 15
      · have hwI : (w : Int) ≤ 15 := by omega
        have hws : (15 : Int) - (w : Int) = ((15 - w : Nat) : Int) := by omega
        have HA := Lib.hid hat
        clear hat
        go_wp2_with (fail)
        go_loopw [7, 50] (fun z y wr => ∃ i at1 : Nat, i ≤ xs.length ∧ z = .int .i64 at1 ∧ y = .int .i64 i ∧ Hid (at1 = atS xs w i) ∧ W1 = wr) (fun _ y _ => xs.length - (intOf y).toNat)
        case atStart => exact ⟨0, at0, Nat.zero_le _, rfl, rfl, HA, rfl⟩
        case round =>
          obtain ⟨i, at1, hi, rfl, rfl, hat, rfl⟩ := hrel
          by_cases hlt : i < xs.length
          · obtain ⟨rfl, hblk⟩ := HQ.out i hlt
            obtain ⟨x, hp⟩ : ∃ p, xs[i]? = some p := ⟨_, List.getElem?_eq_getElem hlt⟩
            have hc0 : W1.cell? ⟨b, off + i, none⟩ = some (.int .i64 x) := (hb1.cell (p := ⟨b, off + i, none⟩) hblk).trans (HC.out i _ hp)
            have hltI : (i : Int) < (xs.length : Int) := by omega
            by_cases hxw : x = (w : Int)
            · subst hxw
              have hcode := atS_code hp hw1 hw
              have hle := atS_le xs HM.out w i hw1 hw
              have hle2 := atS_le xs HM.out w (i + 1) hw1 hw
              have hnx := atS_next hp w
              rw [if_pos rfl] at hnx
              obtain ⟨c, hc⟩ : ∃ c, c = codeAt xs i := ⟨_, rfl⟩
              have c1 : W1.cell? ⟨R, i, none⟩ = some (.int .i64 (c : Int)) := by rw [hrow.cell hlt, hc]; rfl
              rw [← hc, ← hat.out] at hcode
              rw [← hat.out, ← HN.out] at hle
              rw [← HN.out] at hle2
              have hshI : (c : Int) * 2 ^ (15 - w) = (at1 : Int) := by rw [← hcode]; simp
              obtain ⟨at2, ha2⟩ : ∃ at2, at2 = atS xs w (i + 1) := ⟨_, rfl⟩
              rw [← ha2, ← hat.out] at hnx
              rw [← ha2] at hle2
              have hnI : (at1 : Int) + 2 ^ (15 - w) = (at2 : Int) := by rw [hnx]; simp
              have h14 : (2 : Int) ^ (15 - w) ≤ 32768 := by
                have h9 : 2 ^ (15 - w) ≤ 32768 := by omega
                exact_mod_cast h9
              have HA2 := Lib.hid ha2
              have HP := Lib.hid hp
              clear hcode hnx hc ha2 hp
              go_wp2_with (fail)
              exact ⟨⟨i + 1, at2, by omega, rfl, rfl, HA2, trivial⟩, by show xs.length - (((i : Int) + 1).toNat) < xs.length - ((i : Int).toNat); omega⟩
            · have hxb : (x == (w : Int)) = false := by simpa using hxw
              have hnx := atS_next hp w
              rw [if_neg hxw, Nat.add_zero, ← hat.out] at hnx
              have HA2 : Hid (at1 = atS xs w (i + 1)) := hnx.symm
              clear hnx hp
              go_wp2_with (fail)
              exact ⟨⟨i + 1, at1, by omega, rfl, rfl, HA2, trivial⟩, by show xs.length - (((i : Int) + 1).toNat) < xs.length - ((i : Int).toNat); omega⟩
          · have hie : i = xs.length := by omega
            subst hie
            have hat2 : at1 = atS xs (w + 1) 0 := by rw [hat.out, atS_end _ _ hw1]
            go_wp2_with (fail)
            exact ⟨⟨w + 1, at1, by omega, by omega, rfl, rfl, hat2, trivial⟩, by show 16 - (((w : Int) + 1).toNat) < 16 - ((w : Int).toNat); omega⟩
      · have hwe : w = 16 := by omega
        subst hwe
        have hend : at0 = N := by rw [hat, HN.out, ← sumA_all xs HM.out]; simp [atS, cnt]
        subst hend
        have hlast := last
        go_wp2_with (fail)
        refine (fill_any _ [1, 15] _ (lit_slice [.int .i64 1, .int .i64 15] 2 2 rfl (by decide) (by decide) (by decide)) (by decide) (by decide)).mono ?_
        rintro e W2 ⟨rfl, rfl⟩
        have hb2 := hb1.alloc hb1.size (Obj.cells #[Value.int .i64 1, .int .i64 15] 3)
        rw [hlast.1, hlast.2]
        go_wp2_with (fail)
        go_ret
        exact ⟨rfl, hb2⟩
end Go.Proofs.Ytjfcoccfkkghaaa.lawLensTiles
