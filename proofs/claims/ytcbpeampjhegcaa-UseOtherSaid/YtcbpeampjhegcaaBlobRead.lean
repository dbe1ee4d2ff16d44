/-
  blob.Read: what it answers, and the walk.
-/
import Derived.Test.YtcbpeampjhegcaaBlob
namespace Go.Proofs.Ytcbpeampjhegcaa.blob
open Go.RowKit kit sl Go.Proofs.Ytcbpeampjhegcaa.fix Go.Proofs.Ytcbpeampjhegcaa.fixl Go.Proofs.Ytcbpeampjhegcaa.put Go.Proofs.Ytcbpeampjhegcaa.get
set_option linter.unusedVariables false
/-- k blobs, and nothing behind them -/
def rd : Nat → List UInt8 → Option (List Blob)
  | 0, r => if r = [] then some [] else none
  | k + 1, r => if r.length < 3 then none
    else if (getB (r.drop 3)).2.2 ≠ 0 ∨ r.length < 3 + (getB (r.drop 3)).2.1 + (getB (r.drop 3)).1 then none
    else if blobE (((r.getD 0 0).toNat : Int), ((r.getD 1 0).toNat : Int), ((r.getD 2 0).toNat : Int), (r.drop (3 + (getB (r.drop 3)).2.1)).take (getB (r.drop 3)).1) ≠ 0 then none
    else (rd k (r.drop (3 + (getB (r.drop 3)).2.1 + (getB (r.drop 3)).1))).map fun l => (((r.getD 0 0).toNat : Int), ((r.getD 1 0).toNat : Int), ((r.getD 2 0).toNat : Int), (r.drop (3 + (getB (r.drop 3)).2.1)).take (getB (r.drop 3)).1) :: l
theorem rd_short {k : Nat} {r : List UInt8} (h : r.length < 3) : rd (k + 1) r = none := by rw [rd, if_pos h]
theorem rd_get {k m : Nat} {r : List UInt8} (h : ¬ r.length < 3) (hg : getB (r.drop 3) = (0, 0, m)) (hm : m ≠ 0) : rd (k + 1) r = none := by
  rw [rd, if_neg h, hg, if_pos (.inl hm)]
theorem rd_far {k n j : Nat} {r : List UInt8} (h : ¬ r.length < 3) (hg : getB (r.drop 3) = (n, j, 0)) (hn : r.length < 3 + j + n) : rd (k + 1) r = none := by
  rw [rd, if_neg h, hg, if_pos (.inr hn)]
theorem getD_of {r : List UInt8} {i : Nat} {b : UInt8} (h : r[i]? = some b) : r.getD i 0 = b := by rw [List.getD_eq_getElem?_getD, h]; rfl
theorem rd_bad {k n j : Nat} {r : List UInt8} {b0 b1 b2 : UInt8} (h : ¬ r.length < 3) (hg : getB (r.drop 3) = (n, j, 0)) (hn : ¬ r.length < 3 + j + n) (h0 : r[0]? = some b0) (h1 : r[1]? = some b1) (h2 : r[2]? = some b2)
    (hb : blobE ((b0.toNat : Int), (b1.toNat : Int), (b2.toNat : Int), (r.drop (3 + j)).take n) ≠ 0) : rd (k + 1) r = none := by
  rw [rd, if_neg h, hg, if_neg (by simp; omega), getD_of h0, getD_of h1, getD_of h2, if_pos hb]
theorem rd_step {k n j : Nat} {r : List UInt8} {b0 b1 b2 : UInt8} (h : ¬ r.length < 3) (hg : getB (r.drop 3) = (n, j, 0)) (hn : ¬ r.length < 3 + j + n) (h0 : r[0]? = some b0) (h1 : r[1]? = some b1) (h2 : r[2]? = some b2)
    (hb : blobE ((b0.toNat : Int), (b1.toNat : Int), (b2.toNat : Int), (r.drop (3 + j)).take n) = 0) : rd (k + 1) r = (rd k (r.drop (3 + j + n))).map fun l => ((b0.toNat : Int), (b1.toNat : Int), (b2.toNat : Int), (r.drop (3 + j)).take n) :: l := by
  rw [rd, if_neg h, hg, if_neg (by simp; omega), getD_of h0, getD_of h1, getD_of h2, if_neg (by simp [hb])]
def HeadOk (L : List UInt8) : Prop := 2 ≤ L.length ∧ L.length ≤ 1000 ∧ (L.getD 0 0).toNat ≤ 1 ∧ (L.getD 1 0).toNat ≤ 40
instance (L : List UInt8) : Decidable (HeadOk L) := by unfold HeadOk; infer_instance
def readO (L : List UInt8) : Option (List Blob) := if HeadOk L then rd (L.getD 1 0).toNat (L.drop 2) else none
def ReadB (L : List UInt8) (v : Value) (H' : List Ent) : Prop :=
  (∃ zs q c, readO L = some zs ∧ v = .tuple #[.slice q zs.length c, .bool ((L.getD 0 0).toNat == 1), .int .i64 0] ∧ H' = [own (.slice q zs.length c) 56 4 zs.length (flat fBl zs)]) ∨
  (readO L = none ∧ v = .tuple #[.slice none 0 0, .bool false, .int .i64 4] ∧ H' = [])
instance {L : List UInt8} : Xcl (ReadB L) := by unfold ReadB; infer_instance
theorem get_ok {l : List UInt8} {n k : Nat} (h : l.length ≤ 1000000000000000) (e : getB l = (n, k, 0)) : Ct Try.prog 46 [.string (str l)] [] fun v H' => v = .tuple #[.int .u64 (n : Int), .int .i64 (k : Int), .int .i64 0] ∧ H' = [] :=
  ct_of_calls fun W _ => (get_any (str l) (by rw [str_size]; unfold maxLen; omega) W).mono fun e' w' ⟨h1, h2⟩ => ⟨by
    have h3 : getB (str l).data.toList = (n, k, 0) := e
    rw [h1, h3]; rfl, by rw [← h2]; exact Below.refl _ _⟩
theorem get_no {l : List UInt8} {m : Nat} (h : l.length ≤ 1000000000000000) (e : getB l = (0, 0, m)) : Ct Try.prog 46 [.string (str l)] [] fun v H' => v = .tuple #[.int .u64 0, .int .i64 0, .int .i64 (m : Int)] ∧ H' = [] :=
  ct_of_calls fun W _ => (get_any (str l) (by rw [str_size]; unfold maxLen; omega) W).mono fun e' w' ⟨h1, h2⟩ => ⟨by
    have h3 : getB (str l).data.toList = (0, 0, m) := e
    rw [h1, h3]; rfl, by rw [← h2]; exact Below.refl _ _⟩
attribute [local irreducible] box own sl old bptr eptr Qt Opr Run Cod Pst Drn
set_option maxRecDepth 100000 in
set_option maxHeartbeats 8000000 in
theorem read_any (L : List UInt8) (hL : L.length ≤ 1000000000000000) : Ct Try.prog 36 [.string (str L)] [] (ReadB L) := by
  have bad : readO L = none → ReadB L (.tuple #[.slice none 0 0, .bool false, .int .i64 4]) [] := fun h => .inr ⟨h, rfl, rfl⟩
  by_cases hh : HeadOk L
  · obtain ⟨h1, h2, h3, h4⟩ := hh
    obtain ⟨b0, hb0⟩ : ∃ b0, L[0]? = some b0 := ⟨_, List.getElem?_eq_getElem (by omega)⟩
    obtain ⟨b1, hb1⟩ : ∃ b1, L[1]? = some b1 := ⟨_, List.getElem?_eq_getElem (by omega)⟩
    have hO : readO L = rd b1.toNat (L.drop 2) := by
      unfold readO
      rw [if_pos ⟨h1, h2, h3, h4⟩, getD_of hb1]
    have hg0 := getD_of hb0
    rw [hg0] at h3
    rw [getD_of hb1] at h4
    (refine spec_enter Try.func36 Try.ntmps36 rfl rfl fun Fr => ?_; dsimp only [List.cons_append, List.nil_append, ini, Nat.reduceAdd])
    (repeat' (first | (apply run_qg 1; (focus rfl); (focus exact wt); (focus rfl); (focus (exact qg1))) | (apply run_qg 3; (focus rfl); (focus exact wt); (focus rfl); (focus (first | exact qg3 | exact qs3))) | (apply run_qg 4; (focus rfl); (focus exact wt); (focus rfl); (focus (first | exact qg4 | exact qs4))) | (apply run_qg 6; (focus rfl); (focus exact wt); (focus rfl); (focus (first | exact qs6 | exact qg6 | exact q_max rfl rfl rfl | exact q_sliceData rfl rfl (by omega) | exact q_sliceDataN rfl rfl | exact q_unsafeStringN rfl rfl rfl | exact q_cap_slice rfl rfl))) | refine cod_seq ?_ | refine cod_region ?_ | refine run_nil ?_ | refine pst_then ?_ | (apply cod_cond_f; (focus rfl)) | refine cod_block ?_ | refine cod_skip ?_))
    refine cod_heap (heap_nil _ 56 4) ?_
    (refine cod_loop_rw (σ := Nat × Nat × List Blob × Option Addr × Nat) (fun s => s.1 ≤ b1.toNat ∧ s.2.1 ≤ L.length ∧ readO L = (rd (b1.toNat - s.1) (L.drop s.2.1)).map (fun l => s.2.2.1 ++ l) ∧ s.2.2.1.length = s.1) (fun s => [(31, .int .u8 (s.1 : Int)), (6, .int .i64 (s.2.1 : Int)), (5, .slice s.2.2.2.1 s.2.2.1.length s.2.2.2.2)]) (fun s => [own (.slice s.2.2.2.1 s.2.2.1.length s.2.2.2.2) 56 4 s.2.2.1.length (flat fBl s.2.2.1)]) _ (fun s => b1.toNat - s.1) ((0, 2, [], none, 0)) (by exact ⟨Nat.zero_le _, h1, (by rw [hO]; cases rd b1.toNat (L.drop 2) <;> rfl), rfl⟩) (by exact fsa) (by (first | exact HSub.of_picks_rest (by exact pca))) (fun ⟨k, at', zs, q, c⟩ ⟨hk, hat, hrd, hzl⟩ => ?_); dsimp only [List.cons_append, List.nil_append])
    dsimp only at hk hat hrd hzl
    have hbt := b1.toNat_lt
    rcases Nat.lt_or_ge k b1.toNat with hlt | hge
    · obtain ⟨m, hm⟩ : ∃ m, b1.toNat - k = m + 1 := ⟨b1.toNat - k - 1, by omega⟩
      have hm2 : b1.toNat - (k + 1) = m := by omega
      rw [hm] at hrd
      have none1 : rd (m + 1) (L.drop at') = none → ReadB L (.tuple #[.slice none 0 0, .bool false, .int .i64 4]) [] := fun h => bad (by rw [hrd, h]; rfl)
      have hrl : (L.drop at').length = L.length - at' := List.length_drop
      have hdd : (L.drop at').drop 3 = L.drop (at' + 3) := List.drop_drop
      by_cases h3r : L.length < at' + 3
      · have B0 := none1 (rd_short (by omega))
        clear hrd none1 hdd
        (repeat' (first | (apply run_qg 1; (focus rfl); (focus exact wt); (focus rfl); (focus (exact qg1))) | (apply run_qg 4; (focus rfl); (focus exact wt); (focus rfl); (focus (first | exact qg4 | exact qs4))) | (apply run_qg 6; (focus rfl); (focus exact wt); (focus rfl); (focus (first | exact qs6 | exact qg6 | exact q_max rfl rfl rfl | exact q_sliceData rfl rfl (by omega) | exact q_sliceDataN rfl rfl | exact q_unsafeStringN rfl rfl rfl | exact q_cap_slice rfl rfl))) | refine cod_seq ?_ | refine cod_region ?_ | refine run_nil ?_ | refine pst_then ?_ | (apply cod_cond_t; (focus rfl)) | refine cod_block ?_ | refine cod_ret ?_ | refine cod_skip ?_ | refine pst_block_ret ?_ | refine pst_then_ret ?_))
        exact pst_fin rfl (by exact resa) _ (B0) (by exact hsa)
      · have hgl : (L.drop (at' + 3)).length ≤ 1000000000000000 := by rw [List.length_drop]; omega
        have no2 : ∀ m', getB (L.drop (at' + 3)) = (0, 0, m') → m' ≠ 0 → ReadB L (.tuple #[.slice none 0 0, .bool false, .int .i64 4]) [] := fun m' h h' => none1 (rd_get (by omega) (by rw [hdd]; exact h) h')
        rcases getB_facts (L.drop (at' + 3)) with ⟨j, n, e1, e2, e3, e4, e5⟩ | e1 | e1
        · have G1 := get_ok hgl e1
          rw [List.length_drop] at e3
          have e1' : getB ((L.drop at').drop 3) = (n, j, 0) := by rw [hdd]; exact e1
          by_cases hn : L.length < at' + (3 + j + n)
          · have B0 := none1 (rd_far (by omega) e1' (by omega))
            clear hrd none1 hdd no2 e1 e5 e1'
            (repeat' (first | (apply run_qg 1; (focus rfl); (focus exact wt); (focus rfl); (focus (exact qg1))) | (apply run_qg 4; (focus rfl); (focus exact wt); (focus rfl); (focus (first | exact qg4 | exact qs4))) | (apply run_qg 6; (focus rfl); (focus exact wt); (focus rfl); (focus (first | exact qs6 | exact qg6 | exact q_max rfl rfl rfl | exact q_sliceData rfl rfl (by omega) | exact q_sliceDataN rfl rfl | exact q_unsafeStringN rfl rfl rfl | exact q_cap_slice rfl rfl))) | (apply run_qg 11; (focus rfl); (focus exact wt); (focus rfl); (focus (exact qs11))) | (apply run_qg 12; (focus rfl); (focus exact wt); (focus rfl); (focus (first | exact qs12 | exact q_cutp rfl rfl rfl rfl (by omega) (by omega) | exact q_slice_cap rfl rfl rfl rfl (by omega)))) | refine cod_seq ?_ | refine cod_region ?_ | refine run_nil ?_ | refine pst_then ?_ | (apply cod_cond_t; (focus rfl)) | (apply cod_cond_f; (focus rfl)) | refine cod_block ?_ | refine cod_ret ?_ | refine cod_skip ?_ | refine pst_block_ret ?_ | refine pst_then_ret ?_ | (apply run_osg 7; (focus rfl); (focus exact wt); (focus rfl); (focus (exact opr_call_ls (by rfl) (G1 ..) (by rfl) lpa)); (rintro _ _ ⟨rfl, rfl⟩))))
            exact pst_fin rfl (by exact resa) _ (B0) (by exact hsa)
          · obtain ⟨y0, hc0⟩ : ∃ b, L[at']? = some b := ⟨_, List.getElem?_eq_getElem (by omega)⟩
            obtain ⟨y1, hc1⟩ : ∃ b, L[at' + 1]? = some b := ⟨_, List.getElem?_eq_getElem (by omega)⟩
            obtain ⟨y2, hc2⟩ : ∃ b, L[at' + 2]? = some b := ⟨_, List.getElem?_eq_getElem (by omega)⟩
            have hX : (L.drop (at' + 3 + j)).take (at' + 3 + j + n - (at' + 3 + j)) = ((L.drop at').drop (3 + j)).take n := by
              rw [List.drop_drop, show at' + 3 + j + n - (at' + 3 + j) = n from by omega, show at' + (3 + j) = at' + 3 + j from by omega]
            have d0 : (L.drop at')[0]? = some y0 := by rw [List.getElem?_drop]; exact hc0
            have d1 : (L.drop at')[1]? = some y1 := by rw [List.getElem?_drop]; exact hc1
            have d2 : (L.drop at')[2]? = some y2 := by rw [List.getElem?_drop]; exact hc2
            have rb := fun k => rd_bad (k := k) (by omega) e1' (by omega) d0 d1 d2
            have rs := fun k => rd_step (k := k) (by omega) e1' (by omega) d0 d1 d2
            rw [← hX] at rb rs
            have CK := check_p ((y0.toNat : Int), (y1.toNat : Int), (y2.toNat : Int), (L.drop (at' + 3 + j)).take (at' + 3 + j + n - (at' + 3 + j)))
            have hdd2 : (L.drop at').drop (3 + j + n) = L.drop (at' + (3 + j + n)) := List.drop_drop
            have t0 := y0.toNat_lt
            have t1 := y1.toNat_lt
            have t2 := y2.toNat_lt
            dsimp only at CK
            by_cases hz : blobE ((y0.toNat : Int), (y1.toNat : Int), (y2.toNat : Int), (L.drop (at' + 3 + j)).take (at' + 3 + j + n - (at' + 3 + j))) = 0
            · have r1 := rs m hz
              rw [hdd2] at r1
              rw [hz] at CK
              have hr2 : readO L = (rd (b1.toNat - (k + 1)) (L.drop (at' + (3 + j + n)))).map (fun l => (zs ++ [((y0.toNat : Int), (y1.toNat : Int), (y2.toNat : Int), (L.drop (at' + 3 + j)).take (at' + 3 + j + n - (at' + 3 + j)))]) ++ l) := by
                rw [hm2, hrd, r1, Option.map_map]
                congr 1
                funext l
                simp
              clear hrd none1 hdd no2 e1 e5 e1' rb rs r1 hz hdd2 hX d0 d1 d2
              (repeat' (first | (apply run_qg 1; (focus rfl); (focus exact wt); (focus rfl); (focus (exact qg1))) | (apply run_qg 2; (focus rfl); (focus exact wt); (focus rfl); (focus (first | exact qg2 | exact qs2))) | (apply run_qg 4; (focus rfl); (focus exact wt); (focus rfl); (focus (first | exact qg4 | exact qs4))) | (apply run_qg 6; (focus rfl); (focus exact wt); (focus rfl); (focus (first | exact qs6 | exact qg6 | exact q_max rfl rfl rfl | exact q_sliceData rfl rfl (by omega) | exact q_sliceDataN rfl rfl | exact q_unsafeStringN rfl rfl rfl | exact q_cap_slice rfl rfl))) | (apply run_qg 11; (focus rfl); (focus exact wt); (focus rfl); (focus (exact qs11))) | (apply run_qg 12; (focus rfl); (focus exact wt); (focus rfl); (focus (first | exact qs12 | exact q_cutp rfl rfl rfl rfl (by omega) (by omega) | exact q_slice_cap rfl rfl rfl rfl (by omega)))) | refine cod_seq ?_ | refine cod_region ?_ | refine run_nil ?_ | refine pst_then ?_ | (apply cod_cond_t; (focus rfl)) | (apply cod_cond_f; (focus rfl)) | refine cod_block ?_ | refine cod_skip ?_ | (apply run_osg 10; (focus rfl); (focus exact wt); (focus rfl); (focus (exact opr_buildSlice rfl rfl rfl (by exact blda) rfl rfl (by decide) rfl)); (rintro _ _ ⟨q, rfl, rfl⟩)) | (apply run_osg 7; (focus rfl); (focus exact wt); (focus rfl); (focus (exact opr_call_ls (by rfl) (G1 ..) (by rfl) lpa)); (rintro _ _ ⟨rfl, rfl⟩)) | (apply run_osg 7; (focus rfl); (focus exact wt); (focus rfl); (focus (exact opr_call_ls (by rfl) (CK ..) (by rfl) lpa)); (rintro _ _ ⟨rfl, rfl⟩)) | (apply cod_drawn_k; (focus kernel_rfl); (focus (simp only [List.length_cons, List.length_nil, Nat.reduceAdd]; rfl))) | (apply drnK_take 1; (focus rfl); (focus rfl); (focus exact wt); (focus (decide +kernel)); (focus exact hsq); (focus rfl); (focus (exact qg1))) | (apply drnK_take 3; (focus rfl); (focus rfl); (focus exact wt); (focus (decide +kernel)); (focus exact hsq); (focus rfl); (focus (first | exact qg3 | exact qs3))) | (apply drnK_take 4; (focus rfl); (focus rfl); (focus exact wt); (focus (decide +kernel)); (focus exact hsq); (focus rfl); (focus (first | exact qg4 | exact qs4))) | (apply drnK_take 5; (focus rfl); (focus rfl); (focus exact wt); (focus (decide +kernel)); (focus exact hsq); (focus rfl); (focus (exact qg5))) | (apply drnK_take 11; (focus rfl); (focus rfl); (focus exact wt); (focus (decide +kernel)); (focus exact hsq); (focus rfl); (focus (exact qs11))) | (apply drnK_take 12; (focus rfl); (focus rfl); (focus exact wt); (focus (decide +kernel)); (focus exact hsq); (focus rfl); (focus (first | exact qs12 | exact q_cutp rfl rfl rfl rfl (by omega) (by omega) | exact q_slice_cap rfl rfl rfl rfl (by omega)))) | (apply drnK_ones 8; (focus rfl); (focus rfl); (focus (decide +kernel)); (focus exact wt); (focus rfl); (focus (exact opr_new rfl)); (rintro _ _ ⟨b, rfl, rfl⟩; refine ⟨(by first | exact fun h => absurd h (by decide) | exact fun _ => hsq), ?_⟩)) | (apply drnK_onen 9; (focus rfl); (focus rfl); (focus (decide +kernel)); (focus exact wt); (focus (exact opr_store_box_agg rfl rfl rfl (by exact pka) rfl rfl rfl (by exact spla))); (rintro _ _ ⟨rfl, rfl⟩; refine ⟨(by first | exact fun h => absurd h (by decide) | exact fun _ => hsq), ?_⟩)) | (apply drnK_end; (focus (decide +kernel)))))
              (refine run_os wt (by rfl) (by first | exact opr_append_lit0 (fBl) [((y0.toNat : Int), (y1.toNat : Int), (y2.toNat : Int), (L.drop (at' + 3 + j)).take (at' + 3 + j + n - (at' + 3 + j)))] rfl rfl rfl (by exact pka) (by rfl) (by rfl) (by intro _; rfl) (by (first | exact one_fS | exact one_fI | exact one_fB | exact one_fP | exact one_fIIS | exact one_fIIIS | exact one_fII | exact one_fSI | exact one_fIIU | exact one_fY | exact one_fBl | exact one_fT | exact one_fE | assumption)) rfl (by simp only [List.length_cons, List.length_nil]; omega) (by (unfold maxLen); simp only [List.length_cons, List.length_nil]; omega) | exact opr_append_lit (fBl) [((y0.toNat : Int), (y1.toNat : Int), (y2.toNat : Int), (L.drop (at' + 3 + j)).take (at' + 3 + j + n - (at' + 3 + j)))] rfl rfl rfl (by exact pka) (by exact pka) (by rfl) (by rfl) (by first | rfl | omega) (by intro _; rfl) (by (first | exact one_fS | exact one_fI | exact one_fB | exact one_fP | exact one_fIIS | exact one_fIIIS | exact one_fII | exact one_fSI | exact one_fIIU | exact one_fY | exact one_fBl | exact one_fT | exact one_fE | assumption)) rfl (by simp only [List.length_cons, List.length_nil]; omega) (by (unfold maxLen); simp only [List.length_cons, List.length_nil]; omega)) ?_; rintro _ _ ⟨q2, c2, rfl, rfl⟩)
              (repeat' (first | (apply run_qg 1; (focus rfl); (focus exact wt); (focus rfl); (focus (exact qg1))) | (apply run_qg 4; (focus rfl); (focus exact wt); (focus rfl); (focus (first | exact qg4 | exact qs4))) | (apply run_qg 11; (focus rfl); (focus exact wt); (focus rfl); (focus (exact qs11))) | refine cod_region ?_ | refine run_nil ?_ | refine pst_then ?_ | refine pst_block ?_))
              refine pst_again ((k + 1, at' + (3 + j + n), zs ++ [((y0.toNat : Int), (y1.toNat : Int), (y2.toNat : Int), (L.drop (at' + 3 + j)).take (at' + 3 + j + n - (at' + 3 + j)))], q2, c2)) ?_ (FSub.of (by (try dsimp only); exact fsa)) (by (try dsimp only); exact hsa) ?_
              · exact ⟨hlt, (show at' + (3 + j + n) ≤ L.length from by omega), hr2, by rw [List.length_append, hzl]; rfl⟩
              · show b1.toNat - (k + 1) < b1.toNat - k
                omega
            · have B0 := none1 (rb m hz)
              clear hrd none1 hdd no2 e1 e5 e1' rb rs hdd2 hX d0 d1 d2
              generalize blobE ((y0.toNat : Int), (y1.toNat : Int), (y2.toNat : Int), (L.drop (at' + 3 + j)).take (at' + 3 + j + n - (at' + 3 + j))) = z at *
              (repeat' (first | (apply run_qg 1; (focus rfl); (focus exact wt); (focus rfl); (focus (exact qg1))) | (apply run_qg 2; (focus rfl); (focus exact wt); (focus rfl); (focus (first | exact qg2 | exact qs2))) | (apply run_qg 4; (focus rfl); (focus exact wt); (focus rfl); (focus (first | exact qg4 | exact qs4))) | (apply run_qg 6; (focus rfl); (focus exact wt); (focus rfl); (focus (first | exact qs6 | exact qg6 | exact q_max rfl rfl rfl | exact q_sliceData rfl rfl (by omega) | exact q_sliceDataN rfl rfl | exact q_unsafeStringN rfl rfl rfl | exact q_cap_slice rfl rfl))) | (apply run_qg 11; (focus rfl); (focus exact wt); (focus rfl); (focus (exact qs11))) | (apply run_qg 12; (focus rfl); (focus exact wt); (focus rfl); (focus (first | exact qs12 | exact q_cutp rfl rfl rfl rfl (by omega) (by omega) | exact q_slice_cap rfl rfl rfl rfl (by omega)))) | refine cod_seq ?_ | refine cod_region ?_ | refine run_nil ?_ | refine pst_then ?_ | (apply cod_cond_t; (focus rfl)) | (apply cod_cond_f; (focus rfl)) | refine cod_block ?_ | refine cod_ret ?_ | refine cod_skip ?_ | refine pst_block_ret ?_ | refine pst_then_ret ?_ | (apply run_osg 7; (focus rfl); (focus exact wt); (focus rfl); (focus (exact opr_call_ls (by rfl) (G1 ..) (by rfl) lpa)); (rintro _ _ ⟨rfl, rfl⟩)) | (apply run_osg 7; (focus rfl); (focus exact wt); (focus rfl); (focus (exact opr_call_ls (by rfl) (CK ..) (by rfl) lpa)); (rintro _ _ ⟨rfl, rfl⟩)) | (apply cod_drawn_k; (focus kernel_rfl); (focus (simp only [List.length_cons, List.length_nil, Nat.reduceAdd]; rfl))) | (apply drnK_take 1; (focus rfl); (focus rfl); (focus exact wt); (focus (decide +kernel)); (focus exact hsq); (focus rfl); (focus (exact qg1))) | (apply drnK_take 3; (focus rfl); (focus rfl); (focus exact wt); (focus (decide +kernel)); (focus exact hsq); (focus rfl); (focus (first | exact qg3 | exact qs3))) | (apply drnK_take 4; (focus rfl); (focus rfl); (focus exact wt); (focus (decide +kernel)); (focus exact hsq); (focus rfl); (focus (first | exact qg4 | exact qs4))) | (apply drnK_take 5; (focus rfl); (focus rfl); (focus exact wt); (focus (decide +kernel)); (focus exact hsq); (focus rfl); (focus (exact qg5))) | (apply drnK_take 11; (focus rfl); (focus rfl); (focus exact wt); (focus (decide +kernel)); (focus exact hsq); (focus rfl); (focus (exact qs11))) | (apply drnK_take 12; (focus rfl); (focus rfl); (focus exact wt); (focus (decide +kernel)); (focus exact hsq); (focus rfl); (focus (first | exact qs12 | exact q_cutp rfl rfl rfl rfl (by omega) (by omega) | exact q_slice_cap rfl rfl rfl rfl (by omega)))) | (apply drnK_ones 8; (focus rfl); (focus rfl); (focus (decide +kernel)); (focus exact wt); (focus rfl); (focus (exact opr_new rfl)); (rintro _ _ ⟨b, rfl, rfl⟩; refine ⟨(by first | exact fun h => absurd h (by decide) | exact fun _ => hsq), ?_⟩)) | (apply drnK_onen 9; (focus rfl); (focus rfl); (focus (decide +kernel)); (focus exact wt); (focus (exact opr_store_box_agg rfl rfl rfl (by exact pka) rfl rfl rfl (by exact spla))); (rintro _ _ ⟨rfl, rfl⟩; refine ⟨(by first | exact fun h => absurd h (by decide) | exact fun _ => hsq), ?_⟩)) | (apply drnK_end; (focus (decide +kernel)))))
              exact pst_fin rfl (by exact resa) _ (B0) (by exact hsa)
        · have G1 := get_no hgl e1
          have B0 := no2 _ e1 (by decide)
          clear hrd none1 hdd no2 e1
          (repeat' (first | (apply run_qg 1; (focus rfl); (focus exact wt); (focus rfl); (focus (exact qg1))) | (apply run_qg 4; (focus rfl); (focus exact wt); (focus rfl); (focus (first | exact qg4 | exact qs4))) | (apply run_qg 6; (focus rfl); (focus exact wt); (focus rfl); (focus (first | exact qs6 | exact qg6 | exact q_max rfl rfl rfl | exact q_sliceData rfl rfl (by omega) | exact q_sliceDataN rfl rfl | exact q_unsafeStringN rfl rfl rfl | exact q_cap_slice rfl rfl))) | (apply run_qg 12; (focus rfl); (focus exact wt); (focus rfl); (focus (first | exact qs12 | exact q_cutp rfl rfl rfl rfl (by omega) (by omega) | exact q_slice_cap rfl rfl rfl rfl (by omega)))) | refine cod_seq ?_ | refine cod_region ?_ | refine run_nil ?_ | refine pst_then ?_ | (apply cod_cond_t; (focus rfl)) | (apply cod_cond_f; (focus rfl)) | refine cod_block ?_ | refine cod_ret ?_ | refine cod_skip ?_ | refine pst_block_ret ?_ | refine pst_then_ret ?_ | (apply run_offs; (focus rfl); (focus rfl); (focus rfl)) | (apply run_osg 7; (focus rfl); (focus exact wt); (focus rfl); (focus (exact opr_call_ls (by rfl) (G1 ..) (by rfl) lpa)); (rintro _ _ ⟨rfl, rfl⟩))))
          exact pst_fin rfl (by exact resa) _ (B0) (by exact hsa)
        · have G1 := get_no hgl e1
          have B0 := no2 _ e1 (by decide)
          clear hrd none1 hdd no2 e1
          (repeat' (first | (apply run_qg 1; (focus rfl); (focus exact wt); (focus rfl); (focus (exact qg1))) | (apply run_qg 4; (focus rfl); (focus exact wt); (focus rfl); (focus (first | exact qg4 | exact qs4))) | (apply run_qg 6; (focus rfl); (focus exact wt); (focus rfl); (focus (first | exact qs6 | exact qg6 | exact q_max rfl rfl rfl | exact q_sliceData rfl rfl (by omega) | exact q_sliceDataN rfl rfl | exact q_unsafeStringN rfl rfl rfl | exact q_cap_slice rfl rfl))) | (apply run_qg 12; (focus rfl); (focus exact wt); (focus rfl); (focus (first | exact qs12 | exact q_cutp rfl rfl rfl rfl (by omega) (by omega) | exact q_slice_cap rfl rfl rfl rfl (by omega)))) | refine cod_seq ?_ | refine cod_region ?_ | refine run_nil ?_ | refine pst_then ?_ | (apply cod_cond_t; (focus rfl)) | (apply cod_cond_f; (focus rfl)) | refine cod_block ?_ | refine cod_ret ?_ | refine cod_skip ?_ | refine pst_block_ret ?_ | refine pst_then_ret ?_ | (apply run_offs; (focus rfl); (focus rfl); (focus rfl)) | (apply run_osg 7; (focus rfl); (focus exact wt); (focus rfl); (focus (exact opr_call_ls (by rfl) (G1 ..) (by rfl) lpa)); (rintro _ _ ⟨rfl, rfl⟩))))
          exact pst_fin rfl (by exact resa) _ (B0) (by exact hsa)
    · have hke : b1.toNat - k = 0 := by omega
      rw [hke] at hrd
      by_cases hend : at' = L.length
      · have hO2 : readO L = some zs := by
          rw [hrd, rd, if_pos (by rw [hend]; exact List.drop_length)]
          simp
        clear hrd
        by_cases hb : b0.toNat = 1
        · have hB : ((L.getD 0 0).toNat == 1) = true := by rw [hg0, hb]; rfl
          have hbI : (b0.toNat : Int) = 1 := by omega
          (repeat' (first | (apply run_qg 1; (focus rfl); (focus exact wt); (focus rfl); (focus (exact qg1))) | (apply run_qg 4; (focus rfl); (focus exact wt); (focus rfl); (focus (first | exact qg4 | exact qs4))) | (apply run_qg 6; (focus rfl); (focus exact wt); (focus rfl); (focus (first | exact qs6 | exact qg6 | exact q_max rfl rfl rfl | exact q_sliceData rfl rfl (by omega) | exact q_sliceDataN rfl rfl | exact q_unsafeStringN rfl rfl rfl | exact q_cap_slice rfl rfl))) | refine cod_seq ?_ | refine cod_region ?_ | refine run_nil ?_ | refine pst_then ?_ | (apply cod_cond_f; (focus rfl)) | refine cod_exit ?_ | refine cod_ret ?_ | refine cod_skip ?_ | refine pst_block_here ?_ | refine pst_then_exit ?_ | (apply cod_drawn_k; (focus kernel_rfl); (focus (simp only [List.length_cons, List.length_nil, Nat.reduceAdd]; rfl))) | (apply drnK_take 1; (focus rfl); (focus rfl); (focus exact wt); (focus (decide +kernel)); (focus exact hsq); (focus rfl); (focus (exact qg1))) | (apply drnK_take 3; (focus rfl); (focus rfl); (focus exact wt); (focus (decide +kernel)); (focus exact hsq); (focus rfl); (focus (first | exact qg3 | exact qs3))) | (apply drnK_take 4; (focus rfl); (focus rfl); (focus exact wt); (focus (decide +kernel)); (focus exact hsq); (focus rfl); (focus (first | exact qg4 | exact qs4))) | (apply drnK_end; (focus (decide +kernel)))))
          exact pst_fin rfl (by exact resa) _ (.inl ⟨zs, q, c, hO2, by rw [hB], rfl⟩) (by exact hsa)
        · have hB : ((L.getD 0 0).toNat == 1) = false := by rw [hg0]; simpa using hb
          have hbI : (b0.toNat : Int) ≠ 1 := by omega
          (repeat' (first | (apply run_qg 1; (focus rfl); (focus exact wt); (focus rfl); (focus (exact qg1))) | (apply run_qg 4; (focus rfl); (focus exact wt); (focus rfl); (focus (first | exact qg4 | exact qs4))) | (apply run_qg 6; (focus rfl); (focus exact wt); (focus rfl); (focus (first | exact qs6 | exact qg6 | exact q_max rfl rfl rfl | exact q_sliceData rfl rfl (by omega) | exact q_sliceDataN rfl rfl | exact q_unsafeStringN rfl rfl rfl | exact q_cap_slice rfl rfl))) | refine cod_seq ?_ | refine cod_region ?_ | refine run_nil ?_ | refine pst_then ?_ | (apply cod_cond_f; (focus rfl)) | refine cod_exit ?_ | refine cod_ret ?_ | refine cod_skip ?_ | refine pst_block_here ?_ | refine pst_then_exit ?_ | (apply cod_drawn_k; (focus kernel_rfl); (focus (simp only [List.length_cons, List.length_nil, Nat.reduceAdd]; rfl))) | (apply drnK_take 1; (focus rfl); (focus rfl); (focus exact wt); (focus (decide +kernel)); (focus exact hsq); (focus rfl); (focus (exact qg1))) | (apply drnK_take 3; (focus rfl); (focus rfl); (focus exact wt); (focus (decide +kernel)); (focus exact hsq); (focus rfl); (focus (first | exact qg3 | exact qs3))) | (apply drnK_take 4; (focus rfl); (focus rfl); (focus exact wt); (focus (decide +kernel)); (focus exact hsq); (focus rfl); (focus (first | exact qg4 | exact qs4))) | (apply drnK_end; (focus (decide +kernel)))))
          exact pst_fin rfl (by exact resa) _ (.inl ⟨zs, q, c, hO2, by rw [hB], rfl⟩) (by exact hsa)
      · have B0 := bad (by
          rw [hrd, rd, if_neg]
          · rfl
          · intro h
            have := congrArg List.length h
            rw [List.length_drop] at this
            simp at this
            omega)
        clear hrd
        (repeat' (first | (apply run_qg 1; (focus rfl); (focus exact wt); (focus rfl); (focus (exact qg1))) | (apply run_qg 4; (focus rfl); (focus exact wt); (focus rfl); (focus (first | exact qg4 | exact qs4))) | (apply run_qg 6; (focus rfl); (focus exact wt); (focus rfl); (focus (first | exact qs6 | exact qg6 | exact q_max rfl rfl rfl | exact q_sliceData rfl rfl (by omega) | exact q_sliceDataN rfl rfl | exact q_unsafeStringN rfl rfl rfl | exact q_cap_slice rfl rfl))) | refine cod_seq ?_ | refine cod_region ?_ | refine run_nil ?_ | refine pst_then ?_ | (apply cod_cond_t; (focus rfl)) | (apply cod_cond_f; (focus rfl)) | refine cod_exit ?_ | refine cod_ret ?_ | refine pst_block_here ?_ | refine pst_then_exit ?_ | refine pst_then_ret ?_))
        exact pst_fin rfl (by exact resa) _ (B0) (by exact hsa)
  · have hO : readO L = none := by unfold readO; rw [if_neg hh]
    have B0 := bad hO
    by_cases h1 : L.length < 2
    · (refine spec_enter Try.func36 Try.ntmps36 rfl rfl fun Fr => ?_; dsimp only [List.cons_append, List.nil_append, ini, Nat.reduceAdd])
      (repeat' (first | (apply run_qg 1; (focus rfl); (focus exact wt); (focus rfl); (focus (exact qg1))) | (apply run_qg 4; (focus rfl); (focus exact wt); (focus rfl); (focus (first | exact qg4 | exact qs4))) | (apply run_qg 6; (focus rfl); (focus exact wt); (focus rfl); (focus (first | exact qs6 | exact qg6 | exact q_max rfl rfl rfl | exact q_sliceData rfl rfl (by omega) | exact q_sliceDataN rfl rfl | exact q_unsafeStringN rfl rfl rfl | exact q_cap_slice rfl rfl))) | refine cod_seq ?_ | refine cod_region ?_ | refine run_nil ?_ | refine pst_then ?_ | (apply cod_cond_t; (focus rfl)) | refine cod_ret ?_ | refine pst_then_ret ?_ | (apply run_offs; (focus rfl); (focus rfl); (focus rfl))))
      exact pst_fin rfl (by exact resa) _ (B0) (by exact hsa)
    · by_cases h2 : 1000 < L.length
      · (refine spec_enter Try.func36 Try.ntmps36 rfl rfl fun Fr => ?_; dsimp only [List.cons_append, List.nil_append, ini, Nat.reduceAdd])
        (repeat' (first | (apply run_qg 1; (focus rfl); (focus exact wt); (focus rfl); (focus (exact qg1))) | (apply run_qg 4; (focus rfl); (focus exact wt); (focus rfl); (focus (first | exact qg4 | exact qs4))) | (apply run_qg 6; (focus rfl); (focus exact wt); (focus rfl); (focus (first | exact qs6 | exact qg6 | exact q_max rfl rfl rfl | exact q_sliceData rfl rfl (by omega) | exact q_sliceDataN rfl rfl | exact q_unsafeStringN rfl rfl rfl | exact q_cap_slice rfl rfl))) | refine cod_seq ?_ | refine cod_region ?_ | refine run_nil ?_ | refine pst_then ?_ | (apply cod_cond_t; (focus rfl)) | refine cod_ret ?_ | refine pst_then_ret ?_ | (apply run_offs; (focus rfl); (focus rfl); (focus rfl))))
        exact pst_fin rfl (by exact resa) _ (B0) (by exact hsa)
      · obtain ⟨b0, hb0⟩ : ∃ b0, L[0]? = some b0 := ⟨_, List.getElem?_eq_getElem (by omega)⟩
        obtain ⟨b1, hb1⟩ : ∃ b1, L[1]? = some b1 := ⟨_, List.getElem?_eq_getElem (by omega)⟩
        have hbb : 1 < b0.toNat ∨ 40 < b1.toNat := by
          unfold HeadOk at hh
          rw [getD_of hb0, getD_of hb1] at hh
          omega
        by_cases h3 : 1 < b0.toNat
        · (refine spec_enter Try.func36 Try.ntmps36 rfl rfl fun Fr => ?_; dsimp only [List.cons_append, List.nil_append, ini, Nat.reduceAdd])
          (repeat' (first | (apply run_qg 1; (focus rfl); (focus exact wt); (focus rfl); (focus (exact qg1))) | (apply run_qg 3; (focus rfl); (focus exact wt); (focus rfl); (focus (first | exact qg3 | exact qs3))) | (apply run_qg 4; (focus rfl); (focus exact wt); (focus rfl); (focus (first | exact qg4 | exact qs4))) | (apply run_qg 6; (focus rfl); (focus exact wt); (focus rfl); (focus (first | exact qs6 | exact qg6 | exact q_max rfl rfl rfl | exact q_sliceData rfl rfl (by omega) | exact q_sliceDataN rfl rfl | exact q_unsafeStringN rfl rfl rfl | exact q_cap_slice rfl rfl))) | refine cod_seq ?_ | refine cod_region ?_ | refine run_nil ?_ | refine pst_then ?_ | (apply cod_cond_t; (focus rfl)) | refine cod_ret ?_ | refine pst_then_ret ?_ | (apply run_offs; (focus rfl); (focus rfl); (focus rfl))))
          exact pst_fin rfl (by exact resa) _ (B0) (by exact hsa)
        · have h4 : 40 < b1.toNat := by omega
          (refine spec_enter Try.func36 Try.ntmps36 rfl rfl fun Fr => ?_; dsimp only [List.cons_append, List.nil_append, ini, Nat.reduceAdd])
          (repeat' (first | (apply run_qg 1; (focus rfl); (focus exact wt); (focus rfl); (focus (exact qg1))) | (apply run_qg 3; (focus rfl); (focus exact wt); (focus rfl); (focus (first | exact qg3 | exact qs3))) | (apply run_qg 4; (focus rfl); (focus exact wt); (focus rfl); (focus (first | exact qg4 | exact qs4))) | (apply run_qg 6; (focus rfl); (focus exact wt); (focus rfl); (focus (first | exact qs6 | exact qg6 | exact q_max rfl rfl rfl | exact q_sliceData rfl rfl (by omega) | exact q_sliceDataN rfl rfl | exact q_unsafeStringN rfl rfl rfl | exact q_cap_slice rfl rfl))) | refine cod_seq ?_ | refine cod_region ?_ | refine run_nil ?_ | refine pst_then ?_ | (apply cod_cond_t; (focus rfl)) | refine cod_ret ?_ | refine pst_then_ret ?_))
          exact pst_fin rfl (by exact resa) _ (B0) (by exact hsa)
end Go.Proofs.Ytcbpeampjhegcaa.blob
