/-
  imap.Cut: the walk.
-/
import Derived.Test.YtdjnhbaipfkiaaaImapSet
namespace Go.Proofs.Ytdjnhbaipfkiaaa.imap
open Go.RowKit kit
set_option linter.unusedVariables false

set_option maxHeartbeats 1000000 in
set_option maxRecDepth 100000 in
theorem cut_any (a g : Value) (ps : List (Int × Int)) (gs : List Int) (n : Nat) (c t z : Int) (W : World) (hm : MapAt W a g ps gs) (hgood : GoodM ps gs) (hn : n < 48) (hp : ps[n]? = some (c, t)) (hz : gs[n]? = some z) :
    Calls Try.prog 26 #[.agg #[a, g], .int .i64 n] W fun e w' =>
      (c = 0 ∧ e = .returned (.tuple #[none2, .int .i64 12]) ∨ c ≠ 0 ∧ z = 2147483647 ∧ e = .returned (.tuple #[none2, .int .i64 10]) ∨
       c ≠ 0 ∧ z ≠ 2147483647 ∧ ∃ a' g', e = .returned (.tuple #[.agg #[a', g'], .int .i64 0]) ∧ MapAt w' a' g' (ps.set n (0, 0)) (gs.set n (z + 1))) ∧ Below W.heap.size W w' := by
  have hlike := fun w h => like_any a g ps gs w h (by rw [hgood.1]; omega) (by rw [hgood.2.1]; omega)
  have hcheck := fun w h => check_any a g ps gs w h
  obtain ⟨qa, qg, ca, cg, ba, oa, bg, og, hc⟩ := hm.cells
  obtain ⟨rfl, rfl, va, vg, c0, c1⟩ := hc
  have e1 := hgood.1
  have e2 := hgood.2.1
  obtain ⟨rfl, hba⟩ := va n (by omega)
  obtain ⟨rfl, hbg⟩ := vg n (by omega)
  have hz2 := hgood.2.2 n hn _ _ hp hz
  have k0 := (c0 n _ hp).1
  have k1 := c1 n z hz
  rw [e1, e2] at hm hlike hcheck ⊢
  have hu43 := Try.underlying43
  have hnI : (n : Int) < 48 := by omega
  have E1 := Lib.hid e1
  have E2 := Lib.hid e2
  clear e1 e2 va vg c0 c1
  have hz0 : 0 ≤ z := hz2.2.1
  have hz3 : z ≤ 2147483647 := hz2.2.2
  clear hz2
  go_enter Try.func26, Try.ntmps26
  go_wp2_with (fail)
  obtain ⟨WA, hWA⟩ : ∃ WA, (W.alloc (Obj.cells #[Value.slice (some ⟨ba, oa, none⟩) 48 ca, Value.slice (some ⟨bg, og, none⟩) 48 cg] 43)).alloc (Obj.cells #[Value.slice none 0 0, Value.slice none 0 0] 43) = WA := ⟨_, rfl⟩
  have hb0 : Below W.heap.size W WA := by rw [← hWA]; exact ((Below.refl W.heap.size W).alloc (Nat.le_refl _) _).alloc (by simp) _
  have x0 : WA.heap[W.heap.size]? = some (.cells #[Value.slice (some ⟨ba, oa, none⟩) 48 ca, Value.slice (some ⟨bg, og, none⟩) 48 cg] 43 (0, 0)) := by
    rw [← hWA, heap_alloc_old _ _ (by simp)]; exact heap_alloc_new _ _
  have x2 : WA.heap[W.heap.size + 1]? = some (.cells #[Value.slice none 0 0, Value.slice none 0 0] 43 (0, 0)) := by
    rw [← hWA]
    have := heap_alloc_new (W.alloc (Obj.cells #[Value.slice (some ⟨ba, oa, none⟩) 48 ca, Value.slice (some ⟨bg, og, none⟩) 48 cg] 43)) (Obj.cells #[Value.slice none 0 0, Value.slice none 0 0] 43)
    simpa using this
  rw [hWA]
  clear hWA
  obtain ⟨B, hB⟩ : ∃ B, W.heap.size = B := ⟨_, rfl⟩
  rw [hB] at x0 x2 ⊢
  have hBl : W.heap.size ≤ B := by omega
  clear hB
  have l2 := (Array.getElem?_eq_some_iff.1 x2).1
  have hF : ∀ w', Below WA.heap.size WA w' → w'.cell? ⟨B, 0, none⟩ = some (Value.slice (some ⟨ba, oa, none⟩) 48 ca) ∧ w'.cell? ⟨B, 1, none⟩ = some (Value.slice (some ⟨bg, og, none⟩) 48 cg) ∧ w'.cell? ⟨B + 1, 0, none⟩ = some (Value.slice none 0 0) ∧ w'.cell? ⟨B + 1, 1, none⟩ = some (Value.slice none 0 0) ∧ w'.frozen? ⟨B + 1, 0, none⟩ = false ∧ w'.frozen? ⟨B + 1, 1, none⟩ = false ∧ w'.heap[B + 1]? = some (.cells #[Value.slice none 0 0, Value.slice none 0 0] 43 (0, 0)) := fun w' h => by
    have y0 := (h.block B (by omega)).trans x0
    have y2 := (h.block (B + 1) l2).trans x2
    exact ⟨by rw [cell_of_row _ _ _ _ _ _ y0]; rfl, by rw [cell_of_row _ _ _ _ _ _ y0]; rfl, by rw [cell_of_row _ _ _ _ _ _ y2]; rfl, by rw [cell_of_row _ _ _ _ _ _ y2]; rfl, frozen_of_row _ _ _ _ _ y2, frozen_of_row _ _ _ _ _ y2, y2⟩
  refine (hcheck _ (hm.below hb0)).mono ?_
  rintro e w1 ⟨⟨_, rfl⟩ | ⟨hbad, _⟩, b2⟩
  · obtain ⟨y0, y1, y4, y5, y6, y7, y8⟩ := hF w1 b2
    have bw2 : Below W.heap.size W w1 := hb0.trans (b2.mono hb0.size)
    have k0' : w1.cell? ⟨ba, oa + n * 2, none⟩ = some (.int .i64 c) := (bw2.cell (p := ⟨ba, oa + n * 2, none⟩) hba).trans k0
    have k1' : w1.cell? ⟨bg, og + n, none⟩ = some (.int .i64 z) := (bw2.cell (p := ⟨bg, og + n, none⟩) hbg).trans k1
    have HPz := Lib.hid hp
    have HZ := Lib.hid hz
    clear hp hz
    by_cases hc0 : c = 0
    · subst hc0
      clear hlike hcheck hF
      go_wp2_with (fail)
      have hk := heap_setCell_same _ _ 1 _ _ (Value.slice none 0 0) (heap_setCell_same _ _ 0 _ _ (Value.slice none 0 0) y8)
      refine bodyPost_ret_by (v := .tuple #[none2, .int .i64 12]) (results_cell2 (ty := 43) rfl _ _ (B + 1) _ #[Value.slice none 0 0, Value.slice none 0 0] _ _ rfl hk hu43 rfl size43 _ rfl) rfl ⟨by first | exact .inl ⟨rfl, rfl⟩ | exact rfl, (bw2.setCell (p := ⟨B + 1, 0, none⟩) (by simp; omega) _).setCell (p := ⟨B + 1, 1, none⟩) (by simp; omega) _⟩
    · have hcb : (c == 0) = false := by simpa using hc0
      by_cases hzm : z = 2147483647
      · subst hzm
        clear hlike hcheck hF
        go_wp2_with (fail)
        have hk := heap_setCell_same _ _ 1 _ _ (Value.slice none 0 0) (heap_setCell_same _ _ 0 _ _ (Value.slice none 0 0) y8)
        refine bodyPost_ret_by (v := .tuple #[none2, .int .i64 10]) (results_cell2 (ty := 43) rfl _ _ (B + 1) _ #[Value.slice none 0 0, Value.slice none 0 0] _ _ rfl hk hu43 rfl size43 _ rfl) rfl ⟨by first | exact .inr (.inl ⟨hc0, rfl, rfl⟩) | exact rfl | exact ⟨hc0, rfl⟩, (bw2.setCell (p := ⟨B + 1, 0, none⟩) (by simp; omega) _).setCell (p := ⟨B + 1, 1, none⟩) (by simp; omega) _⟩
      · have hzb : (z == 2147483647) = false := by simpa using hzm
        go_wp2_with (fail)
        refine (hlike _ (hm.below bw2)).mono ?_
        rintro e w3 ⟨⟨a', g', rfl, ho1, ho2⟩, b3'⟩
        have b3 : Below WA.heap.size WA w3 := b2.trans (b3'.mono b2.size)
        have bw3 : Below W.heap.size W w3 := hb0.trans (b3.mono hb0.size)
        obtain ⟨ga, capa, cura, rfl, ha1, ha2, ha3, ha4, ha5, ha6, ha7⟩ := own_cells rowP_len ho1 (by omega)
        obtain ⟨gg, capg, curg, rfl, hg1, hg2, hg3, hg4, hg5, hg6, hg7⟩ := own_cells rowI_len ho2 (by omega)
        have b2s := b2.size
        clear y0 y1 y4 y5 y6 y7 y8 ho1 ho2 b2 k0 k1 k0' k1'
        obtain ⟨y0, y1, y4, y5, y6, y7, y8⟩ := hF w3 b3
        have hga2 : B + 1 < ga := Nat.lt_of_lt_of_le (Nat.lt_of_lt_of_le l2 b2s) ha1
        have hgg2 : B + 1 < gg := Nat.lt_of_lt_of_le (Nat.lt_of_lt_of_le l2 b2s) hg1
        have hag : ga ≠ gg := fun h => by rw [h] at ha5; rw [hg5] at ha5; simp at ha5
        have hlR := Nat.lt_of_lt_of_le l2 b3.size
        have hcap : (n : Int) < (capa : Int) := by omega
        have hcapg : (n : Int) < (capg : Int) := by omega
        have bw3s := bw3.size
        have HA7 := Lib.hid ha7
        have HG7 := Lib.hid hg7
        have HNE := Lib.hid (show c ≠ 0 ∧ z ≠ 2147483647 from ⟨hc0, hzm⟩)
        have HM := Lib.hid hm
        have HGOOD := Lib.hid hgood
        clear ha7 hg7 hF hlike hcheck hc0 hzm hm hgood x0 x2 hb0 b3 bw2 b3' hg6 b2s y0 y1 y4 y5 y6 y7 hcb hzb
        have a4 : (w3.alloc (Obj.cells #[Value.slice (some ⟨ga, 0, none⟩) 48 capa, Value.slice (some ⟨gg, 0, none⟩) 48 capg] 43)).heap[ga]? = some (.cells cura 45 (0, 0)) := (heap_alloc_old _ _ ha2).trans ha5
        have b4 : (w3.alloc (Obj.cells #[Value.slice (some ⟨ga, 0, none⟩) 48 capa, Value.slice (some ⟨gg, 0, none⟩) 48 capg] 43)).heap[gg]? = some (.cells curg 3 (0, 0)) := (heap_alloc_old _ _ hg2).trans hg5
        have r4 : (w3.alloc (Obj.cells #[Value.slice (some ⟨ga, 0, none⟩) 48 capa, Value.slice (some ⟨gg, 0, none⟩) 48 capg] 43)).heap[B + 1]? = some (.cells #[Value.slice none 0 0, Value.slice none 0 0] 43 (0, 0)) := (heap_alloc_old _ _ hlR).trans y8
        have n4 : (w3.alloc (Obj.cells #[Value.slice (some ⟨ga, 0, none⟩) 48 capa, Value.slice (some ⟨gg, 0, none⟩) 48 capg] 43)).heap[w3.heap.size]? = some (.cells #[(Value.slice (some ⟨ga, 0, none⟩) 48 capa), (Value.slice (some ⟨gg, 0, none⟩) 48 capg)] 43 (0, 0)) := heap_alloc_new _ _
        have bw4 := bw3.alloc bw3s (Obj.cells #[Value.slice (some ⟨ga, 0, none⟩) 48 capa, Value.slice (some ⟨gg, 0, none⟩) 48 capg] 43)
        have A4 := Lib.hid a4
        have B4 := Lib.hid b4
        have R4 := Lib.hid r4
        have N4 := Lib.hid n4
        have BW4 := Lib.hid bw4
        clear y8 ha5 hg5 bw3 a4 b4 r4 n4 bw4
        go_wp2_with (with_reducible show wpList _ _ _ ({ dst := none, op := Op.store 45 (.tmp 45) (.tmp 44), type := _, pos := _, after := _, guard := none } :: _) _ _; (refine opq_store rfl 45 (.tmp 45) (.tmp 44) rfl ga (n * 2) ?pa 45 cura [Value.int .i64 0, Value.int .i64 0] A4.out rfl ?pf (by kernel_rfl) (by simp [Value.oneCell']) ?_))
        case pa => first | rfl | simp
        case pf => simp; omega
        intro w5 cur5 s5 g5 l5
        have n5 : w5.heap[w3.heap.size]? = some (.cells #[(Value.slice (some ⟨ga, 0, none⟩) 48 capa), (Value.slice (some ⟨gg, 0, none⟩) 48 capg)] 43 (0, 0)) := (s5.block _ (by omega)).trans N4.out
        have r5 : w5.heap[B + 1]? = some (.cells #[Value.slice none 0 0, Value.slice none 0 0] 43 (0, 0)) := (s5.block _ (by omega)).trans R4.out
        have b5 : w5.heap[gg]? = some (.cells curg 3 (0, 0)) := (s5.block _ (by omega)).trans B4.out
        have n51 : w5.cell? ⟨w3.heap.size, 1, none⟩ = some (Value.slice (some ⟨gg, 0, none⟩) 48 capg) := by rw [cell_of_row _ _ _ _ _ _ n5]; rfl
        have d51 : w5.cell? ⟨gg, n, none⟩ = some (.int .i64 z) := by
          rw [cell_of_row _ _ _ _ _ _ b5]
          have := HG7.out n z HZ.out 0 _ rfl
          simpa using this
        have d52 := frozen_of_row _ gg n _ _ b5
        have n6 : (w5.setCell ⟨gg, n, none⟩ (Value.int .i64 (z + 1))).heap[w3.heap.size]? = some (.cells #[(Value.slice (some ⟨ga, 0, none⟩) 48 capa), (Value.slice (some ⟨gg, 0, none⟩) 48 capg)] 43 (0, 0)) := by rw [heap_setCell_other _ _ _ _ (by simp; omega)]; exact n5
        have r6 : (w5.setCell ⟨gg, n, none⟩ (Value.int .i64 (z + 1))).heap[B + 1]? = some (.cells #[Value.slice none 0 0, Value.slice none 0 0] 43 (0, 0)) := by rw [heap_setCell_other _ _ _ _ (by simp; omega)]; exact r5
        have a6 : (w5.setCell ⟨gg, n, none⟩ (Value.int .i64 (z + 1))).heap[ga]? = some (.cells cur5 45 (0, 0)) := by rw [heap_setCell_other _ _ _ _ (by simp; omega)]; exact g5
        have b6 : (w5.setCell ⟨gg, n, none⟩ (Value.int .i64 (z + 1))).heap[gg]? = some (.cells (curg.setIfInBounds n (Value.int .i64 (z + 1))) 3 (0, 0)) := heap_setCell_same _ _ _ _ _ _ b5
        have n60 : (w5.setCell ⟨gg, n, none⟩ (Value.int .i64 (z + 1))).cell? ⟨w3.heap.size, 0, none⟩ = some (Value.slice (some ⟨ga, 0, none⟩) 48 capa) := by rw [cell_of_row _ _ _ _ _ _ n6]; rfl
        have n61 : (w5.setCell ⟨gg, n, none⟩ (Value.int .i64 (z + 1))).cell? ⟨w3.heap.size, 1, none⟩ = some (Value.slice (some ⟨gg, 0, none⟩) 48 capg) := by rw [cell_of_row _ _ _ _ _ _ n6]; rfl
        have bw6 := (s5.below BW4.out (by omega)).setCell (p := ⟨gg, n, none⟩) (by simp; omega) (Value.int .i64 (z + 1))
        have BW6 := Lib.hid bw6
        have R6 := Lib.hid r6
        have A6 := Lib.hid a6
        have B6 := Lib.hid b6
        have L5 := Lib.hid l5
        clear s5 n5 r5 b5 bw6 g5 l5 A4 B4 R4 N4 BW4 n6 r6 a6 b6
        go_wp2_with (with_reducible show wpList _ _ _ ({ dst := none, op := Op.store 43 (.tmp 4) (.tmp 53), type := _, pos := _, after := _, guard := none } :: _) _ _; (refine opq_store rfl 43 (.tmp 4) (.tmp 53) rfl (B + 1) 0 ?pb 43 #[Value.slice none 0 0, Value.slice none 0 0] [(Value.slice (some ⟨ga, 0, none⟩) 48 capa), (Value.slice (some ⟨gg, 0, none⟩) 48 capg)] R6.out rfl (by simp) (by kernel_rfl) (by simp [Value.oneCell']) ?_))
        case pb => first | rfl | simp
        intro w7 cur7 s7 g7 l7
        have e7 : cur7 = #[(Value.slice (some ⟨ga, 0, none⟩) 48 capa), (Value.slice (some ⟨gg, 0, none⟩) 48 capg)] := by
          apply Array.ext_getElem?
          intro k
          rw [l7.2 k]
          match k with
          | 0 => rfl
          | 1 => rfl
          | k + 2 => rw [if_neg (by simp)]; simp
        subst e7
        have a7 : w7.heap[ga]? = some (.cells cur5 45 (0, 0)) := (s7.block _ (by omega)).trans A6.out
        have b7 : w7.heap[gg]? = some (.cells (curg.setIfInBounds n (Value.int .i64 (z + 1))) 3 (0, 0)) := (s7.block _ (by omega)).trans B6.out
        have bw7 := s7.below BW6.out (by omega)
        have hres : MapAt w7 (Value.slice (some ⟨ga, 0, none⟩) 48 capa) (Value.slice (some ⟨gg, 0, none⟩) 48 capg) (ps.set n (0, 0)) (gs.set n (z + 1)) := by
          refine ⟨block_slice rowP_len a7 (by simp [E1.out]) ha3 ha4 ?_, block_slice rowI_len b7 (by simp [E2.out]) hg3 hg4 ?_, ?_, ?_, by simp; exact HM.out.la, by simp; exact HM.out.lg⟩
          · intro k x hx j y hy
            rw [L5.out.2]
            have hjl := (List.getElem?_eq_some_iff.1 hy).1
            rw [rowP_len] at hjl
            rw [List.getElem?_set] at hx
            by_cases hnk : n = k
            · subst hnk
              rw [if_pos rfl, if_pos (by rw [E1.out]; exact hn)] at hx
              have hx2 := Option.some.inj hx
              subst hx2
              rw [if_pos (by simp; omega), show n * 2 + j - n * 2 = j from by omega]
              exact hy
            · rw [if_neg hnk] at hx
              rw [if_neg (by simp; omega)]
              exact HA7.out k x hx j y hy
          · intro k x hx j y hy
            have hjl := (List.getElem?_eq_some_iff.1 hy).1
            rw [rowI_len] at hjl
            have hj0 : j = 0 := by omega
            subst hj0
            rw [List.getElem?_set] at hx
            rw [Array.getElem?_setIfInBounds]
            by_cases hnk : n = k
            · subst hnk
              rw [if_pos rfl, if_pos (by rw [E2.out]; exact hn)] at hx
              have hx2 := Option.some.inj hx
              subst hx2
              have hlen : n < curg.size := by
                have h9 := HG7.out n z HZ.out 0 _ rfl
                have := (Array.getElem?_eq_some_iff.1 h9).1
                omega
              rw [if_pos (by omega), if_pos hlen]
              simpa [rowI] using hy
            · rw [if_neg hnk] at hx
              rw [if_neg (by omega)]
              exact HG7.out k x hx 0 y hy
          · intro p hp
            rcases List.mem_or_eq_of_mem_set hp with h | h
            · exact HM.out.ga p h
            · rw [h]; decide
          · intro p hp
            rcases List.mem_or_eq_of_mem_set hp with h | h
            · exact HM.out.gg p h
            · rw [h]; simp [Lit.wf, IntKind.min, IntKind.max, IntKind.signed, IntKind.bits]; omega
        clear s7 l7 n60 n61 a7 b7 d51 d52 n51
        go_wp2_with (fail)
        refine bodyPost_ret_by (v := .tuple #[.agg #[(Value.slice (some ⟨ga, 0, none⟩) 48 capa), (Value.slice (some ⟨gg, 0, none⟩) 48 capg)], .int .i64 0]) (results_cell2 (ty := 43) rfl _ _ (B + 1) _ #[(Value.slice (some ⟨ga, 0, none⟩) 48 capa), (Value.slice (some ⟨gg, 0, none⟩) 48 capg)] _ _ rfl g7 Try.underlying43 rfl size43 _ rfl) rfl ⟨.inr (.inr ⟨HNE.out.1, HNE.out.2, _, _, rfl, hres⟩), bw7⟩
  · exact absurd hgood hbad
end Go.Proofs.Ytdjnhbaipfkiaaa.imap
