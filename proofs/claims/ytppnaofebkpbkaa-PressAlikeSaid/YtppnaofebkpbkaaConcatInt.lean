/-
  slices.Grow (at nil) and slices.Concat of two slices of ints.
-/
import Derived.Test.YtppnaofebkpbkaaRows
import Derived.Test.YtppnaofebkpbkaaAppS
namespace Go.Proofs.Ytppnaofebkpbkaa.concatint
open Go.RowKit kit
set_option linter.unusedVariables false

def rowE (s : Int) : List Value := [Value.int .i64 s]
theorem rowE_len : ∀ y, (rowE y).length = 1 := fun _ => rfl
theorem rowE_one : ∀ y, ∀ u ∈ rowE y, u.oneCell' = true := by
  intro y u hu
  simp [rowE] at hu
  subst hu
  rfl
theorem tE : SliceTy Try.prog 22 3 1 8 (.int .i64 0) := sliceTy_mk Try.underlying22 (by kernel_rfl) rfl (by decide)

set_option maxRecDepth 100000 in
theorem grow_nil (n : Nat) (hn : n * 8 ≤ 281474976710656) (W : World) :
    Calls Try.prog 57 #[.slice none 0 0, .int .i64 n] W fun e w' => ∃ v, e = .returned v ∧ w'.ownsRow W.heap.size 3 1 v 0 [] ∧ Room v n ∧ Below W.heap.size W w' := by
  obtain ⟨h1, h2, h3, i, hi1, hi2, hi3, hi4⟩ := tE
  have hnI : (n : Int) ≤ 281474976710656 := by omega
  by_cases h0 : n = 0
  · subst h0
    go_enter Try.func57, Try.ntmps57
    go_wp2_with (fail)
    go_ret
    exact ⟨_, rfl, World.ownsRow_nil _ _ _ _, .inl ⟨rfl, rfl⟩, Below.refl _ _⟩
  · have hr := fun ty => Lib.run_append_nil_zeros (P := Try.prog) W 22 3 ty 3 i (.int .i64 0) .i64 .i64 h1 Try.underlying3 hi1 hi2 n (by omega) (by omega) (by omega) (by rw [hi4]; omega)
    have hrow := grown_room (w := W) (e := 3) (n := n) h2 (by unfold maxLen; omega)
    have hge := grownCap_ge W n 0 3
    have hle := grownCap_le_maxLen W n 0 3 (by unfold maxLen; omega)
    unfold maxLen at hle
    have hb : Below W.heap.size W (W.drew.alloc (.cells (Builtin.zeroCells (Value.int .i64 0).cells n ++ Builtin.zeroCells (Value.int .i64 0).cells (grownCap W n 0 3 - n)) 3)) := (Below.refl _ _).drew.alloc (Nat.le_refl _) _
    generalize W.drew.alloc (.cells (Builtin.zeroCells (Value.int .i64 0).cells n ++ Builtin.zeroCells (Value.int .i64 0).cells (grownCap W n 0 3 - n)) 3) = W2 at hr hrow hb
    generalize grownCap W n 0 3 = C at hr hrow hge hle
    have hCI : (n : Int) ≤ (C : Int) := by omega
    have hn0 : (0 : Int) < (n : Int) := by omega
    go_enter Try.func57, Try.ntmps57
    go_wp2_with (at_builtin; refine Lib.wpList_append_run _ rfl _ _ _ _ rfl _ _ rfl rfl _ _ (hr _) ?_)
    go_ret
    exact ⟨_, rfl, hrow, .inr ⟨_, _, C, rfl, by omega⟩, hb⟩

set_option maxRecDepth 100000 in
theorem concat_any (g : Nat) (a b : Value) (xs ys : List Int) (W : World) (ha : SliceAt W 1 a (xs.map rowE)) (hb : SliceAt W 1 b (ys.map rowE)) (hg : g < W.heap.size) (ca : W.cell? ⟨g, 0, none⟩ = some a) (cb : W.cell? ⟨g, 1, none⟩ = some b)
    (hn : (xs.length + ys.length) * 8 ≤ 281474976710656) :
    Calls Try.prog 34 #[.slice (some ⟨g, 0, none⟩) 2 2] W fun e w' => ∃ v, e = .returned v ∧ w'.ownsRow W.heap.size 3 1 v (xs.length + ys.length) (flat rowE (xs ++ ys)) ∧ Below W.heap.size W w' := by
  obtain ⟨qa, capa, ba, oa, rfl, _, _⟩ := ha.view
  obtain ⟨qb, capb, bb, ob, rfl, _, _⟩ := hb.view
  simp only [List.length_map] at ha hb ca cb
  have hxI : (xs.length : Int) + (ys.length : Int) ≤ 281474976710656 := by omega
  go_enter Try.func34, Try.ntmps34
  go_wp2_with (fail)
  have hgrow := fun n hn W => grow_nil n hn W
  go_loopw [3, 11] (fun z y wr => ∃ k n : Nat, k ≤ 2 ∧ y = .int .i64 k ∧ z = .int .i64 n ∧ n ≤ xs.length + ys.length ∧ (k = 0 → n = 0) ∧ (k = 1 → n = xs.length) ∧ (k = 2 → n = xs.length + ys.length) ∧ W = wr) (fun _ y _ => 2 - (intOf y).toNat)
  case atStart => exact ⟨0, 0, by omega, rfl, rfl, by omega, by omega, by omega, by omega, rfl⟩
  case round =>
    obtain ⟨k, n, hk, rfl, rfl, hn2, k0, k1, k2, rfl⟩ := hrel
    match k, hk with
    | 0, _ =>
      have hn0 : n = 0 := k0 rfl
      subst hn0
      clear k0 k1 k2
      have hnn : (0 : Int) ≤ (xs.length : Int) := by omega
      go_wp2_with (fail)
      exact ⟨⟨1, xs.length, by omega, rfl, rfl, by omega, by omega, by omega, by omega, trivial⟩, by show 2 - (((1 : Int)).toNat) < 2 - ((0 : Int).toNat); decide⟩
    | 1, _ =>
      have hn0 : n = xs.length := k1 rfl
      subst hn0
      clear k0 k1 k2
      have hnn : (0 : Int) ≤ (xs.length : Int) + (ys.length : Int) := by omega
      go_wp2_with (fail)
      exact ⟨⟨2, xs.length + ys.length, by omega, rfl, by simp, by omega, by omega, by omega, by omega, trivial⟩, by show 2 - (((2 : Int)).toNat) < 2 - ((1 : Int).toNat); decide⟩
    | 2, _ =>
      have hn0 : n = xs.length + ys.length := k2 rfl
      subst hn0
      clear k0 k1 k2
      go_wp2_with (fail)
      refine (hgrow (xs.length + ys.length) hn _).mono ?_
      rintro e W1 ⟨v0, rfl, hown0, hr0, hb0⟩
      clear hgrow
      have hsz0 := hb0.size
      go_wp2_with (fail)
      go_loopw [6, 27] (fun z y wr => ∃ k : Nat, k ≤ 2 ∧ y = .int .i64 k ∧ Room z (xs.length + ys.length) ∧ (k = 0 → wr.ownsRow W.heap.size 3 1 z 0 []) ∧ (k = 1 → wr.ownsRow W.heap.size 3 1 z xs.length (flat rowE xs)) ∧ (k = 2 → wr.ownsRow W.heap.size 3 1 z (xs.length + ys.length) (flat rowE (xs ++ ys))) ∧ Below W.heap.size W wr) (fun _ y _ => 2 - (intOf y).toNat)
      case atStart => exact ⟨0, by omega, rfl, hr0, fun _ => hown0, by omega, by omega, hb0⟩
      case round =>
        clear hown0 hb0 hsz0 hr0
        obtain ⟨k, hk, rfl, hroom, k0, k1, k2, hbl⟩ := hrel
        have hsz := hbl.size
        have ca' := (hbl.cell (p := ⟨g, 0, none⟩) hg).trans ca
        have cb' := (hbl.cell (p := ⟨g, 1, none⟩) hg).trans cb
        have ha' := ha.below (Nat.le_refl _) hbl
        have hb' := hb.below (Nat.le_refl _) hbl
        match k, hk with
        | 0, _ =>
          have hown := k0 rfl
          clear k0 k1 k2
          go_wp2_with (at_builtin; refine appR tE rfl (.tmp 31) (.tmp 32) rfl rowE rowE_len rowE_one _ _ 0 (xs.length + ys.length) [] xs rfl rfl hown hroom ?c1 ha' hbl hsz ?_)
          case c1 => omega
          intro v' w2 hown2 hroom2 hb2 _
          clear hown ha' hb' ca' cb' hbl hsz
          go_wp2_with (fail)
          exact ⟨⟨1, by omega, rfl, hroom2, by omega, fun _ => hown2, by omega, hb2⟩, by show 2 - (((1 : Int)).toNat) < 2 - ((0 : Int).toNat); decide⟩
        | 1, _ =>
          have hown := k1 rfl
          clear k0 k1 k2
          go_wp2_with (at_builtin; refine appR tE rfl (.tmp 31) (.tmp 32) rfl rowE rowE_len rowE_one _ _ xs.length (xs.length + ys.length) (flat rowE xs) ys rfl rfl hown hroom ?c1 hb' hbl hsz ?_)
          case c1 => omega
          intro v' w2 hown2 hroom2 hb2 _
          rw [show flat rowE xs ++ flat rowE ys = flat rowE (xs ++ ys) from by simp [flat]] at hown2
          clear hown ha' hb' ca' cb' hbl hsz
          go_wp2_with (fail)
          exact ⟨⟨2, by omega, rfl, hroom2, by omega, by omega, fun _ => hown2, hb2⟩, by show 2 - (((2 : Int)).toNat) < 2 - ((1 : Int).toNat); decide⟩
        | 2, _ =>
          have hown := k2 rfl
          clear k0 k1 k2 ca' cb' ha' hb'
          go_wp2_with (fail)
          go_ret
          exact ⟨_, rfl, hown, hbl⟩
end Go.Proofs.Ytppnaofebkpbkaa.concatint
