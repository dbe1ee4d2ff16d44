/-
  imap.Set, imap.Cut, imap.Fresh: the walks.
-/
import Derived.Test.YtdjnhbaipfkiaaaImapOps
namespace Go.Proofs.Ytdjnhbaipfkiaaa.imap
open Go.RowKit kit
set_option linter.unusedVariables false

def none2 : Value := .agg #[.slice none 0 0, .slice none 0 0]

set_option maxHeartbeats 1000000 in
set_option maxRecDepth 100000 in
theorem set_any (a g : Value) (ps : List (Int × Int)) (gs : List Int) (n : Nat) (c t : Int) (W : World) (hm : MapAt W a g ps gs) (hgood : GoodM ps gs) (hn : n < 48) (hw : (Lit.int .i64 c).wf = true ∧ (Lit.int .i64 t).wf = true) :
    Calls Try.prog 24 #[.agg #[a, g], .int .i64 n, .agg #[.int .i64 c, .int .i64 t]] W fun e w' =>
      (¬ (Okay (c, t) ∧ c ≠ 0) ∧ e = .returned (.tuple #[none2, .int .i64 1]) ∨ (Okay (c, t) ∧ c ≠ 0) ∧ ∃ a' g', e = .returned (.tuple #[.agg #[a', g'], .int .i64 0]) ∧ MapAt w' a' g' (ps.set n (c, t)) gs) ∧ Below W.heap.size W w' := by
  have hlike := fun w h => like_any a g ps gs w h (by rw [hgood.1]; omega) (by rw [hgood.2.1]; omega)
  have hcheck := fun w h => check_any a g ps gs w h
  obtain ⟨qa, qg, ca, cg, ba, oa, bg, og, hc⟩ := hm.cells
  obtain ⟨rfl, rfl, _, _, _, _⟩ := hc
  have e1 := hgood.1
  have e2 := hgood.2.1
  rw [e1, e2] at hm hlike hcheck ⊢
  have hu43 := Try.underlying43
  have hnI : (n : Int) < 48 := by omega
  have E1 := Lib.hid e1
  have E2 := Lib.hid e2
  clear e1 e2
  go_enter Try.func24, Try.ntmps24
  go_wp2_with (fail)
  obtain ⟨WA, hWA⟩ : ∃ WA, ((W.alloc (Obj.cells #[Value.slice qa 48 ca, Value.slice qg 48 cg] 43)).alloc (Obj.cells #[Value.int .i64 c, Value.int .i64 t] 45)).alloc (Obj.cells #[Value.slice none 0 0, Value.slice none 0 0] 43) = WA := ⟨_, rfl⟩
  have hb0 : Below W.heap.size W WA := by rw [← hWA]; exact (((Below.refl W.heap.size W).alloc (Nat.le_refl _) _).alloc (by simp) _).alloc (by simp; omega) _
  have x0 : WA.heap[W.heap.size]? = some (.cells #[Value.slice qa 48 ca, Value.slice qg 48 cg] 43 (0, 0)) := by
    rw [← hWA, heap_alloc_old _ _ (by simp; omega), heap_alloc_old _ _ (by simp)]; exact heap_alloc_new _ _
  have x1 : WA.heap[W.heap.size + 1]? = some (.cells #[Value.int .i64 c, Value.int .i64 t] 45 (0, 0)) := by
    rw [← hWA, heap_alloc_old _ _ (by simp)]
    have := heap_alloc_new (W.alloc (Obj.cells #[Value.slice qa 48 ca, Value.slice qg 48 cg] 43)) (Obj.cells #[Value.int .i64 c, Value.int .i64 t] 45)
    simpa using this
  have x2 : WA.heap[W.heap.size + 1 + 1]? = some (.cells #[Value.slice none 0 0, Value.slice none 0 0] 43 (0, 0)) := by
    rw [← hWA]
    have := heap_alloc_new ((W.alloc (Obj.cells #[Value.slice qa 48 ca, Value.slice qg 48 cg] 43)).alloc (Obj.cells #[Value.int .i64 c, Value.int .i64 t] 45)) (Obj.cells #[Value.slice none 0 0, Value.slice none 0 0] 43)
    simpa using this
  rw [hWA]
  clear hWA
  obtain ⟨B, hB⟩ : ∃ B, W.heap.size = B := ⟨_, rfl⟩
  rw [hB] at x0 x1 x2 ⊢
  have hBl : W.heap.size ≤ B := by omega
  clear hB
  have l2 := (Array.getElem?_eq_some_iff.1 x2).1
  have hF : ∀ w', Below WA.heap.size WA w' → w'.cell? ⟨B, 0, none⟩ = some (Value.slice qa 48 ca) ∧ w'.cell? ⟨B, 1, none⟩ = some (Value.slice qg 48 cg) ∧ w'.cell? ⟨B + 1, 0, none⟩ = some (Value.int .i64 c) ∧ w'.cell? ⟨B + 1, 1, none⟩ = some (Value.int .i64 t) ∧ w'.cell? ⟨B + 1 + 1, 0, none⟩ = some (Value.slice none 0 0) ∧ w'.cell? ⟨B + 1 + 1, 1, none⟩ = some (Value.slice none 0 0) ∧ w'.frozen? ⟨B + 1 + 1, 0, none⟩ = false ∧ w'.frozen? ⟨B + 1 + 1, 1, none⟩ = false ∧ w'.heap[B + 1 + 1]? = some (.cells #[Value.slice none 0 0, Value.slice none 0 0] 43 (0, 0)) := fun w' h => by
    have y0 := (h.block B (by omega)).trans x0
    have y1 := (h.block (B + 1) (by omega)).trans x1
    have y2 := (h.block (B + 1 + 1) l2).trans x2
    exact ⟨by rw [cell_of_row _ _ _ _ _ _ y0]; rfl, by rw [cell_of_row _ _ _ _ _ _ y0]; rfl, by rw [cell_of_row _ _ _ _ _ _ y1]; rfl, by rw [cell_of_row _ _ _ _ _ _ y1]; rfl, by rw [cell_of_row _ _ _ _ _ _ y2]; rfl, by rw [cell_of_row _ _ _ _ _ _ y2]; rfl, frozen_of_row _ _ _ _ _ y2, frozen_of_row _ _ _ _ _ y2, y2⟩
  refine (hcheck _ (hm.below hb0)).mono ?_
  rintro e w1 ⟨⟨_, rfl⟩ | ⟨hbad, _⟩, b1⟩
  · obtain ⟨y0, y1, y2, y3, y4, y5, y6, y7, y8⟩ := hF w1 b1
    go_wp2_with (fail)
    refine (right_any c t _).mono ?_
    rintro e w2 ⟨rfl, b2'⟩
    have b2 : Below WA.heap.size WA w2 := b1.trans (b2'.mono b1.size)
    clear y0 y1 y2 y3 y4 y5 y6 y7 y8 b2' b1
    obtain ⟨y0, y1, y2, y3, y4, y5, y6, y7, y8⟩ := hF w2 b2
    have bw2 : Below W.heap.size W w2 := hb0.trans (b2.mono hb0.size)
    by_cases hok : Okay (c, t)
    · rw [decide_eq_true hok]
      by_cases hc0 : c = 0
      · have hno : ¬ (Okay (c, t) ∧ c ≠ 0) := fun h => h.2 hc0
        have hcb : (c == 0) = true := by simpa using hc0
        clear hc0
        go_wp2_with (fail)
        have hk := heap_setCell_same _ _ 1 _ _ (Value.slice none 0 0) (heap_setCell_same _ _ 0 _ _ (Value.slice none 0 0) y8)
        refine bodyPost_ret_by (v := .tuple #[none2, .int .i64 1]) (results_cell2 (ty := 43) rfl _ _ (B + 1 + 1) _ #[Value.slice none 0 0, Value.slice none 0 0] _ _ rfl hk hu43 rfl size43 _ rfl) rfl ⟨.inl ⟨hno, rfl⟩, (bw2.setCell (p := ⟨B + 1 + 1, 0, none⟩) (by simp; omega) _).setCell (p := ⟨B + 1 + 1, 1, none⟩) (by simp; omega) _⟩
      · have hyes : Okay (c, t) ∧ c ≠ 0 := ⟨hok, hc0⟩
        have hcb : (c == 0) = false := by simpa using hc0
        clear hok hc0
        go_wp2_with (fail)
        refine (hlike _ (hm.below bw2)).mono ?_
        rintro e w3 ⟨⟨a', g', rfl, ho1, ho2⟩, b3'⟩
        have b3 : Below WA.heap.size WA w3 := b2.trans (b3'.mono b2.size)
        have bw3 : Below W.heap.size W w3 := hb0.trans (b3.mono hb0.size)
        obtain ⟨ga, capa, cura, rfl, ha1, ha2, ha3, ha4, ha5, ha6, ha7⟩ := own_cells rowP_len ho1 (by omega)
        obtain ⟨gg, capg, curg, rfl, hg1, hg2, hg3, hg4, hg5, hg6, hg7⟩ := own_cells rowI_len ho2 (by omega)
        have b2s := b2.size
        clear y0 y1 y2 y3 y4 y5 y6 y7 y8 ho1 ho2 b2
        obtain ⟨y0, y1, y2, y3, y4, y5, y6, y7, y8⟩ := hF w3 b3
        obtain ⟨⟨p0, p1⟩, hp⟩ : ∃ p, ps[n]? = some p := ⟨_, List.getElem?_eq_getElem (by rw [E1.out]; exact hn)⟩
        have hga2 : B + 1 + 1 < ga := Nat.lt_of_lt_of_le (Nat.lt_of_lt_of_le l2 b2s) ha1
        have hgg2 : B + 1 + 1 < gg := Nat.lt_of_lt_of_le (Nat.lt_of_lt_of_le l2 b2s) hg1
        have hag : ga ≠ gg := fun h => by rw [h] at ha5; rw [hg5] at ha5; simp at ha5
        have hlR := Nat.lt_of_lt_of_le l2 b3.size
        have hcap : (n : Int) < (capa : Int) := by omega
        have bw3s := bw3.size
        have HP := Lib.hid hp
        have HA7 := Lib.hid ha7
        have HG7 := Lib.hid hg7
        have HYES := Lib.hid hyes
        have HM := Lib.hid hm
        have HGOOD := Lib.hid hgood
        clear hp ha7 hg7 hF hlike hcheck hyes hm hgood x0 x1 x2 hb0 b3 bw2 b3' hg6 b2s y0 y1 y4 y5 y6 y7
        have a4 : (w3.alloc (Obj.cells #[Value.slice (some ⟨ga, 0, none⟩) 48 capa, Value.slice (some ⟨gg, 0, none⟩) 48 capg] 43)).heap[ga]? = some (.cells cura 45 (0, 0)) := (heap_alloc_old _ _ ha2).trans ha5
        have b4 : (w3.alloc (Obj.cells #[Value.slice (some ⟨ga, 0, none⟩) 48 capa, Value.slice (some ⟨gg, 0, none⟩) 48 capg] 43)).heap[gg]? = some (.cells curg 3 (0, 0)) := (heap_alloc_old _ _ hg2).trans hg5
        have r4 : (w3.alloc (Obj.cells #[Value.slice (some ⟨ga, 0, none⟩) 48 capa, Value.slice (some ⟨gg, 0, none⟩) 48 capg] 43)).heap[B + 1 + 1]? = some (.cells #[Value.slice none 0 0, Value.slice none 0 0] 43 (0, 0)) := (heap_alloc_old _ _ hlR).trans y8
        have n4 : (w3.alloc (Obj.cells #[Value.slice (some ⟨ga, 0, none⟩) 48 capa, Value.slice (some ⟨gg, 0, none⟩) 48 capg] 43)).heap[w3.heap.size]? = some (.cells #[(Value.slice (some ⟨ga, 0, none⟩) 48 capa), (Value.slice (some ⟨gg, 0, none⟩) 48 capg)] 43 (0, 0)) := heap_alloc_new _ _
        have p40 : (w3.alloc (Obj.cells #[Value.slice (some ⟨ga, 0, none⟩) 48 capa, Value.slice (some ⟨gg, 0, none⟩) 48 capg] 43)).cell? ⟨B + 1, 0, none⟩ = some (Value.int .i64 c) := cell_old y2
        have p41 : (w3.alloc (Obj.cells #[Value.slice (some ⟨ga, 0, none⟩) 48 capa, Value.slice (some ⟨gg, 0, none⟩) 48 capg] 43)).cell? ⟨B + 1, 1, none⟩ = some (Value.int .i64 t) := cell_old y3
        have bw4 := bw3.alloc bw3s (Obj.cells #[Value.slice (some ⟨ga, 0, none⟩) 48 capa, Value.slice (some ⟨gg, 0, none⟩) 48 capg] 43)
        have A4 := Lib.hid a4
        have B4 := Lib.hid b4
        have R4 := Lib.hid r4
        have N4 := Lib.hid n4
        have BW4 := Lib.hid bw4
        clear y2 y3 y8 ha5 hg5 bw3 a4 b4 r4 n4 bw4
        go_wp2_with (with_reducible show wpList _ _ _ ({ dst := none, op := Op.store 45 (.tmp 42) (.tmp 41), type := _, pos := _, after := _, guard := none } :: _) _ _; (refine opq_store rfl 45 (.tmp 42) (.tmp 41) rfl ga (n * 2) ?pa 45 cura [Value.int .i64 c, Value.int .i64 t] A4.out rfl ?pf (by kernel_rfl) (by simp [Value.oneCell']) ?_))
        case pa => first | rfl | simp
        case pf => simp; omega
        intro w5 cur5 s5 g5 l5
        have n5 : w5.heap[w3.heap.size]? = some (.cells #[(Value.slice (some ⟨ga, 0, none⟩) 48 capa), (Value.slice (some ⟨gg, 0, none⟩) 48 capg)] 43 (0, 0)) := (s5.block _ (by omega)).trans N4.out
        have r5 : w5.heap[B + 1 + 1]? = some (.cells #[Value.slice none 0 0, Value.slice none 0 0] 43 (0, 0)) := (s5.block _ (by omega)).trans R4.out
        have b5 : w5.heap[gg]? = some (.cells curg 3 (0, 0)) := (s5.block _ (by omega)).trans B4.out
        have n50 : w5.cell? ⟨w3.heap.size, 0, none⟩ = some (Value.slice (some ⟨ga, 0, none⟩) 48 capa) := by rw [cell_of_row _ _ _ _ _ _ n5]; rfl
        have n51 : w5.cell? ⟨w3.heap.size, 1, none⟩ = some (Value.slice (some ⟨gg, 0, none⟩) 48 capg) := by rw [cell_of_row _ _ _ _ _ _ n5]; rfl
        have bw5 := s5.below BW4.out (by omega)
        have BW5 := Lib.hid bw5
        have R5 := Lib.hid r5
        have B5 := Lib.hid b5
        have G5 := Lib.hid g5
        have L5 := Lib.hid l5
        clear s5 n5 r5 b5 bw5 g5 l5 p40 p41 A4 B4 R4 N4 BW4
        go_wp2_with (with_reducible show wpList _ _ _ ({ dst := none, op := Op.store 43 (.tmp 6) (.tmp 43), type := _, pos := _, after := _, guard := none } :: _) _ _; (refine opq_store rfl 43 (.tmp 6) (.tmp 43) rfl (B + 1 + 1) 0 ?pb 43 #[Value.slice none 0 0, Value.slice none 0 0] [(Value.slice (some ⟨ga, 0, none⟩) 48 capa), (Value.slice (some ⟨gg, 0, none⟩) 48 capg)] R5.out rfl (by simp) (by kernel_rfl) (by simp [Value.oneCell']) ?_))
        case pb => first | rfl | simp
        intro w6 cur6 s6 g6 l6
        have e6 : cur6 = #[(Value.slice (some ⟨ga, 0, none⟩) 48 capa), (Value.slice (some ⟨gg, 0, none⟩) 48 capg)] := by
          apply Array.ext_getElem?
          intro k
          rw [l6.2 k]
          match k with
          | 0 => rfl
          | 1 => rfl
          | k + 2 => rw [if_neg (by simp)]; simp
        subst e6
        have a6 : w6.heap[ga]? = some (.cells cur5 45 (0, 0)) := (s6.block _ (by omega)).trans G5.out
        have b6 : w6.heap[gg]? = some (.cells curg 3 (0, 0)) := (s6.block _ (by omega)).trans B5.out
        have bw6 := s6.below BW5.out (by omega)
        have hres : MapAt w6 (Value.slice (some ⟨ga, 0, none⟩) 48 capa) (Value.slice (some ⟨gg, 0, none⟩) 48 capg) (ps.set n (c, t)) gs := by
          refine ⟨block_slice rowP_len a6 (by simp [E1.out]) ha3 ha4 ?_, block_slice rowI_len b6 (by rw [E2.out]) hg3 hg4 HG7.out, ?_, HM.out.gg, by simp; exact HM.out.la, HM.out.lg⟩
          · intro k x hx j y hy
            rw [L5.out.2]
            have hjl := (List.getElem?_eq_some_iff.1 hy).1
            rw [rowP_len] at hjl
            rw [List.getElem?_set] at hx
            by_cases hnk : n = k
            · subst hnk
              rw [if_pos rfl, if_pos (by rw [E1.out]; exact hn)] at hx
              have hx2 := Option.some.inj hx
              subst hx2
              rw [if_pos (by simp; omega), show n * 2 + j - n * 2 = j from by omega]
              exact hy
            · rw [if_neg hnk] at hx
              rw [if_neg (by simp; omega)]
              exact HA7.out k x hx j y hy
          · intro p hp
            rcases List.mem_or_eq_of_mem_set hp with h | h
            · exact HM.out.ga p h
            · rw [h]; exact hw
        clear s6 l6 n50 n51 a6 b6
        go_wp2_with (fail)
        refine bodyPost_ret_by (v := .tuple #[.agg #[(Value.slice (some ⟨ga, 0, none⟩) 48 capa), (Value.slice (some ⟨gg, 0, none⟩) 48 capg)], .int .i64 0]) (results_cell2 (ty := 43) rfl _ _ (B + 1 + 1) _ #[(Value.slice (some ⟨ga, 0, none⟩) 48 capa), (Value.slice (some ⟨gg, 0, none⟩) 48 capg)] _ _ rfl g6 Try.underlying43 rfl size43 _ rfl) rfl ⟨.inr ⟨HYES.out, _, _, rfl, hres⟩, bw6⟩
    · rw [decide_eq_false hok]
      have hno : ¬ (Okay (c, t) ∧ c ≠ 0) := fun h => hok h.1
      clear hok
      go_wp2_with (fail)
      have hk := heap_setCell_same _ _ 1 _ _ (Value.slice none 0 0) (heap_setCell_same _ _ 0 _ _ (Value.slice none 0 0) y8)
      refine bodyPost_ret_by (v := .tuple #[none2, .int .i64 1]) (results_cell2 (ty := 43) rfl _ _ (B + 1 + 1) _ #[Value.slice none 0 0, Value.slice none 0 0] _ _ rfl hk hu43 rfl size43 _ rfl) rfl ⟨.inl ⟨hno, rfl⟩, (bw2.setCell (p := ⟨B + 1 + 1, 0, none⟩) (by simp; omega) _).setCell (p := ⟨B + 1 + 1, 1, none⟩) (by simp; omega) _⟩
  · exact absurd hgood hbad
end Go.Proofs.Ytdjnhbaipfkiaaa.imap
