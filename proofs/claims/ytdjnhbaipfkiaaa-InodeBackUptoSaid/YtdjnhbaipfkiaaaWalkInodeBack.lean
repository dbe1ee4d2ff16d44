/-
  InodeBack: the walk.
-/
import Derived.Test.YtdjnhbaipfkiaaaInodeLaw
namespace Go.Proofs.Ytdjnhbaipfkiaaa.lawInodeBack
open Go.RowKit kit Go.Proofs.Ytdjnhbaipfkiaaa.imap Go.Proofs.Ytdjnhbaipfkiaaa.inode
set_option linter.unusedVariables false

theorem lit_place {w : World} (a b : Int) : SliceAt (w.alloc (.cells #[Value.int .i64 a, Value.int .i64 b] 45)) 2 (.slice (some ⟨w.heap.size, 0, none⟩) 1 1) ([(a, b)].map rowP) := by
  refine .inr ⟨w.heap.size, 0, 1, rfl, by simp, by unfold maxLen; omega, by simp, by simp, ?_⟩
  intro i r hr
  have hi : i = 0 := by have := (List.getElem?_eq_some_iff.1 hr).1; simp at this; omega
  subst hi
  have hr2 : rowP (a, b) = r := by simpa using hr
  subst hr2
  refine ⟨rfl, fun j x hx => ?_⟩
  exact cell_new rfl (by simpa [rowP] using hx)
theorem first_good : GoodI 1 2 3 [(4, 5)] := by
  refine ⟨.inl rfl, by decide, by decide, by decide, by decide, by decide, ?_⟩
  intro p hp
  simp only [List.mem_singleton] at hp
  subst hp
  decide
theorem first_text : writeI 1 2 3 [(4, 5)] = [1, 0, 0, 0, 2, 0, 3, 4, 5] := by decide

theorem first_write (W0 : World) (bl : Nat) (hbl : W0.heap.size = bl) : Calls Try.prog 28 #[.agg #[.int .i64 1, .int .i64 2, .int .i64 3, .slice (some ⟨bl, 0, none⟩) 1 1]] (W0.alloc (.cells #[Value.int .i64 4, Value.int .i64 5] 45)) fun e w' => e = .returned (.tuple #[.string ⟨#[1, 0, 0, 0, 2, 0, 3, 4, 5]⟩, .int .i64 0]) ∧ Below W0.heap.size W0 w' := by
  rw [← hbl]
  refine (write_any 1 2 3 (.slice (some ⟨W0.heap.size, 0, none⟩) 1 1) [(4, 5)] (W0.alloc (.cells #[Value.int .i64 4, Value.int .i64 5] 45)) (lit_place 4 5) (by decide) (by decide) (by decide) (by simp)).mono ?_
  rintro e w1 ⟨h, hb⟩
  have hb2 := ((Below.refl W0.heap.size W0).alloc (Nat.le_refl _) (Obj.cells #[Value.int .i64 4, Value.int .i64 5] 45)).trans (hb.mono (by simp))
  rcases h with ⟨_, h⟩ | ⟨h, _⟩
  · exact ⟨by rw [h, first_text], hb2⟩
  · exact absurd first_good h
/-- what Read answers of a text that was written -/
theorem read_written {k g z : Int} {ps : List (Int × Int)} {T : ByteArray} (h : GoodI k g z ps) (hT : (⟨(writeI k g z ps).toArray⟩ : ByteArray) = T) {e : Ending} {w : World} (hr : ReadSays T e w) :
    ∃ v, e = .returned (.tuple #[.agg #[.int .i64 k, .int .i64 g, .int .i64 z, v], .int .i64 0]) ∧ SliceAt w 2 v (ps.map rowP) := by
  obtain ⟨h1, h2, h3, h4, h5⟩ := read_write h
  have hl : T.data.toList = writeI k g z ps := by rw [← hT]
  have hs : T.size = 7 + 2 * ps.length := by rw [Lib.size_eq, hl, h1]
  unfold ReadSays at hr
  rw [hl, h2, h3, h4, h5] at hr
  rcases hr with ⟨h6 | h6 | h6, _⟩ | ⟨_, _, _, v, rfl, hv⟩
  · omega
  · omega
  · exact absurd h h6
  · exact ⟨v, rfl, hv⟩
/-- what Write answers of what was read -/
theorem written_read {s : ByteArray} (h7 : 7 ≤ s.size) (h2 : s.size % 2 = 1) : (⟨(writeI (kR s.data.toList) (gR s.data.toList) (zR s.data.toList) (pR s.data.toList)).toArray⟩ : ByteArray) = s := by
  apply ByteArray.ext
  rw [write_read s.data.toList ((s.size - 7) / 2) (by rw [← Lib.size_eq]; omega)]
theorem pR_len {s : ByteArray} (h7 : 7 ≤ s.size) (h2 : s.size % 2 = 1) : (pR s.data.toList).length = (s.size - 7) / 2 := pairs_len _ _ (by rw [List.length_drop, ← Lib.size_eq]; omega)
theorem wf_of {a : Int} (h1 : -9223372036854775808 ≤ a) (h2 : a ≤ 9223372036854775807) : (Lit.int .i64 a).wf = true := by
  simp [Lit.wf, IntKind.min, IntKind.max, IntKind.signed, IntKind.bits]
  omega

set_option maxHeartbeats 1000000 in
set_option maxRecDepth 100000 in
theorem walk (W : World) (k : Int) (wk : (Lit.int .i64 k).wf = true) (g : Int) (wg : (Lit.int .i64 g).wf = true) (z : Int) (wz : (Lit.int .i64 z).wf = true)
    (v : Value) (ps : List (Int × Int)) (hs : SliceAt W 2 v (ps.map fun p : Int × Int => [Value.int .i64 p.1, Value.int .i64 p.2])) (hg : ∀ p ∈ ps, (Lit.int .i64 p.1).wf = true ∧ (Lit.int .i64 p.2).wf = true) (hn : ps.length ≤ 1048576)
    (s : ByteArray) (hsz : s.size ≤ 1048576) :
    Calls Try.prog 7 #[.agg #[.int .i64 k, .int .i64 g, .int .i64 z, v], .string s] W fun e w' => e = .returned (.bool true) ∧ Below W.heap.size W w' := by
  have hs0 : SliceAt W 2 v (ps.map rowP) := hs
  clear hs
  have hwr := fun w h => write_any k g z v ps w h wk wg wz (by omega)
  obtain ⟨q, cap, b0, off, rfl, _, _⟩ := hs0.view
  simp only [List.length_map] at hs0 hwr ⊢
  go_enter Try.func7, Try.ntmps7
  go_wp2_with (fail)
  have hb0 := (Below.refl W.heap.size W).alloc (Nat.le_refl _) (Obj.cells #[Value.int .i64 k, Value.int .i64 g, Value.int .i64 z, Value.slice q ps.length cap] 58)
  have hx0 : (W.alloc (Obj.cells #[Value.int .i64 k, Value.int .i64 g, Value.int .i64 z, Value.slice q ps.length cap] 58)).heap[W.heap.size]? = some (.cells #[Value.int .i64 k, Value.int .i64 g, Value.int .i64 z, Value.slice q ps.length cap] 58 (0, 0)) := heap_alloc_new _ _
  have hl0 : W.heap.size < (W.alloc (Obj.cells #[Value.int .i64 k, Value.int .i64 g, Value.int .i64 z, Value.slice q ps.length cap] 58)).heap.size := by simp
  have hsz0 : (W.alloc (Obj.cells #[Value.int .i64 k, Value.int .i64 g, Value.int .i64 z, Value.slice q ps.length cap] 58)).heap.size = W.heap.size + 1 := by simp
  obtain ⟨W0, hW0⟩ : ∃ W0, W.alloc (Obj.cells #[Value.int .i64 k, Value.int .i64 g, Value.int .i64 z, Value.slice q ps.length cap] 58) = W0 := ⟨_, rfl⟩
  rw [hW0] at hb0 hx0 hl0 hsz0 ⊢
  obtain ⟨B, hB⟩ : ∃ B, W.heap.size = B := ⟨_, rfl⟩
  rw [hB] at hx0 hl0 hsz0 ⊢
  clear hB hW0
  have hF : ∀ w', Below W0.heap.size W0 w' → w'.cell? ⟨B, 0, none⟩ = some (.int .i64 k) ∧ w'.cell? ⟨B, 1, none⟩ = some (.int .i64 g) ∧ w'.cell? ⟨B, 2, none⟩ = some (.int .i64 z) ∧ w'.cell? ⟨B, 3, none⟩ = some (Value.slice q ps.length cap) := fun w' h => by
    have y0 := (h.block B hl0).trans hx0
    exact ⟨by rw [cell_of_row _ _ _ _ _ _ y0]; rfl, by rw [cell_of_row _ _ _ _ _ _ y0]; rfl, by rw [cell_of_row _ _ _ _ _ _ y0]; rfl, by rw [cell_of_row _ _ _ _ _ _ y0]; rfl⟩
  refine (first_write W0 (B + 1) hsz0).mono ?_
  rintro e w1 ⟨rfl, b1⟩
  go_wp2_with (fail)
  refine (read_any s (by omega) _).mono ?_
  rintro e w2 ⟨hr, b2⟩
  have hb2 : Below W0.heap.size W0 w2 := b1.trans (b2.mono b1.size)
  have hb3 := fun o : Obj => (hb2.alloc hb2.size o : Below W0.heap.size W0 (w2.alloc o))
  rcases hr with ⟨_, rfl⟩ | ⟨h7, h2, hgi, vr, rfl, hvr⟩
  · unfold zero4
    have hb3 := hb3 (Obj.cells #[Value.int .i64 0, Value.int .i64 0, Value.int .i64 0, Value.slice none 0 0] 58)
    obtain ⟨y0, y1, y2, y3⟩ := hF _ hb3
    go_wp2_with (fail)
    refine (hwr _ (hs0.below (Nat.le_refl _) (hb0.trans (hb3.mono hb0.size)))).mono ?_
    rintro e w4 ⟨hw4, b4⟩
    have hb4 := hb3.trans (b4.mono hb3.size)
    obtain ⟨y0, y1, y2, y3⟩ := hF _ hb4
    have hbW4 := hb0.trans (hb4.mono hb0.size)
    rcases hw4 with ⟨hgd, rfl⟩ | ⟨_, cc, hcc, rfl⟩
    · obtain ⟨T, hT⟩ : ∃ T, (⟨(writeI k g z ps).toArray⟩ : ByteArray) = T := ⟨_, rfl⟩
      rw [hT]
      have hps : ps.length ≤ 8 := by obtain ⟨_, _, _, _, _, _, _⟩ := hgd; omega
      have hTs : T.size ≤ 4000000 := by rw [← hT, size_mk, (read_write hgd).1]; omega
      go_wp2_with (fail)
      refine (read_any T hTs _).mono ?_
      rintro e w5 ⟨hr5, b5⟩
      obtain ⟨vv, rfl, hvv⟩ := read_written hgd hT hr5
      obtain ⟨q5, cap5, bb5, off5, rfl, _, _⟩ := hvv.view
      have hb5 := hb4.trans (b5.mono hb4.size)
      have hbW5 := hbW4.trans (b5.mono hbW4.size)
      simp only [List.length_map] at hvv ⊢
      have hb6 := hb5.alloc hb5.size (Obj.cells #[Value.int .i64 k, Value.int .i64 g, Value.int .i64 z, Value.slice q5 ps.length cap5] 58)
      have hbW6 := hbW5.alloc hbW5.size (Obj.cells #[Value.int .i64 k, Value.int .i64 g, Value.int .i64 z, Value.slice q5 ps.length cap5] 58)
      obtain ⟨y0, y1, y2, y3⟩ := hF _ hb6
      go_wp2_with (fail)
      refine (same_same k g z _ _ ps _ (hs0.below (Nat.le_refl _) hbW6) (hvv.below (Nat.le_refl _) ((Below.refl _ _).alloc (Nat.le_refl _) _)) (by omega)).mono ?_
      rintro e w7 ⟨rfl, b7⟩
      have hbW7 := hbW6.trans (b7.mono hbW6.size)
      go_wp2_with (fail)
      go_ret
      exact ⟨rfl, hbW7⟩
    · have hccI : ((cc : Int) != 0) = true := by simp; omega
      go_wp2_with (fail)
      go_ret
      exact ⟨rfl, hbW4⟩
  · obtain ⟨qr, capr, br, offr, rfl, _, _⟩ := hvr.view
    have hmk := written_read h7 h2
    have hpl := pR_len h7 h2
    generalize kR s.data.toList = km at hgi hvr hmk hpl ⊢
    generalize gR s.data.toList = gm at hgi hvr hmk hpl ⊢
    generalize zR s.data.toList = zm at hgi hvr hmk hpl ⊢
    generalize pR s.data.toList = pm at hgi hvr hmk hpl ⊢
    simp only [List.length_map] at hvr ⊢
    have hb3 := hb3 (Obj.cells #[Value.int .i64 km, Value.int .i64 gm, Value.int .i64 zm, Value.slice qr pm.length capr] 58)
    have hvr3 := hvr.below (Nat.le_refl _) ((Below.refl w2.heap.size w2).alloc (Nat.le_refl _) (Obj.cells #[Value.int .i64 km, Value.int .i64 gm, Value.int .i64 zm, Value.slice qr pm.length capr] 58))
    have hl8 : pm.length ≤ 1000000000000000 := by omega
    clear hpl
    have wkm : (Lit.int .i64 (km : Int)).wf = true := by obtain ⟨_, _, _, _, _, _, _⟩ := hgi; exact wf_of (by omega) (by omega)
    have wgm : (Lit.int .i64 (gm : Int)).wf = true := by obtain ⟨_, _, _, _, _, _, _⟩ := hgi; exact wf_of (by omega) (by omega)
    have wzm : (Lit.int .i64 (zm : Int)).wf = true := by obtain ⟨_, _, _, _, _, _, _⟩ := hgi; exact wf_of (by omega) (by omega)
    go_wp2_with (fail)
    refine (write_any km gm zm _ pm _ hvr3 wkm wgm wzm hl8).mono ?_
    rintro e w3 ⟨hw3, b3⟩
    have hb3 := hb3.trans (b3.mono hb3.size)
    rcases hw3 with ⟨_, rfl⟩ | ⟨hno, _⟩
    rotate_left
    · exact absurd hgi hno
    rw [hmk]
    obtain ⟨y0, y1, y2, y3⟩ := hF _ hb3
    have hse : (s.toList == s.toList) = true := by simp
    clear hmk hgi
    go_wp2_with (fail)
    refine (hwr _ (hs0.below (Nat.le_refl _) (hb0.trans (hb3.mono hb0.size)))).mono ?_
    rintro e w4 ⟨hw4, b4⟩
    have hb4 := hb3.trans (b4.mono hb3.size)
    obtain ⟨y0, y1, y2, y3⟩ := hF _ hb4
    have hbW4 := hb0.trans (hb4.mono hb0.size)
    rcases hw4 with ⟨hgd, rfl⟩ | ⟨_, cc, hcc, rfl⟩
    · obtain ⟨T, hT⟩ : ∃ T, (⟨(writeI k g z ps).toArray⟩ : ByteArray) = T := ⟨_, rfl⟩
      rw [hT]
      have hps : ps.length ≤ 8 := by obtain ⟨_, _, _, _, _, _, _⟩ := hgd; omega
      have hTs : T.size ≤ 4000000 := by rw [← hT, size_mk, (read_write hgd).1]; omega
      go_wp2_with (fail)
      refine (read_any T hTs _).mono ?_
      rintro e w5 ⟨hr5, b5⟩
      obtain ⟨vv, rfl, hvv⟩ := read_written hgd hT hr5
      obtain ⟨q5, cap5, bb5, off5, rfl, _, _⟩ := hvv.view
      have hb5 := hb4.trans (b5.mono hb4.size)
      have hbW5 := hbW4.trans (b5.mono hbW4.size)
      simp only [List.length_map] at hvv ⊢
      have hb6 := hb5.alloc hb5.size (Obj.cells #[Value.int .i64 k, Value.int .i64 g, Value.int .i64 z, Value.slice q5 ps.length cap5] 58)
      have hbW6 := hbW5.alloc hbW5.size (Obj.cells #[Value.int .i64 k, Value.int .i64 g, Value.int .i64 z, Value.slice q5 ps.length cap5] 58)
      obtain ⟨y0, y1, y2, y3⟩ := hF _ hb6
      go_wp2_with (fail)
      refine (same_same k g z _ _ ps _ (hs0.below (Nat.le_refl _) hbW6) (hvv.below (Nat.le_refl _) ((Below.refl _ _).alloc (Nat.le_refl _) _)) (by omega)).mono ?_
      rintro e w7 ⟨rfl, b7⟩
      have hbW7 := hbW6.trans (b7.mono hbW6.size)
      go_wp2_with (fail)
      go_ret
      exact ⟨rfl, hbW7⟩
    · have hccI : ((cc : Int) != 0) = true := by simp; omega
      go_wp2_with (fail)
      go_ret
      exact ⟨rfl, hbW4⟩
end Go.Proofs.Ytdjnhbaipfkiaaa.lawInodeBack
