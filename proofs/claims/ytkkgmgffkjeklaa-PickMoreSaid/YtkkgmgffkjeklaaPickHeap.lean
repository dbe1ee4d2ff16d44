/-
  container/heap on a pick.queue: down, Init, Pop: the walks.
-/
import Derived.Test.YtkkgmgffkjeklaaPick
namespace Go.Proofs.Ytkkgmgffkjeklaa.pick
open Go.RowKit kit sl
set_option linter.unusedVariables false
/-- what down brings about -/
def DownR (l : List One) (n i0 : Nat) (l' : List One) : Prop := HeapFrom l' n i0 ∧ l'.Perm l ∧ l'.length = l.length ∧ ∀ k, n ≤ k → l'[k]? = l[k]?
theorem down_of {l l' : List One} {n i0 i : Nat} (h : Dn l l' n i0 i) (hf : Fine l' n i) : DownR l n i0 l' := ⟨dn_end h hf, h.perm, h.len, h.rest⟩
attribute [local irreducible] box own sl old bptr eptr Qt Opr Run Cod Pst Drn
set_option maxRecDepth 100000 in
set_option maxHeartbeats 8000000 in
theorem down_any (b : Nat) (q : Option Addr) (c : Nat) (l : List One) (n i0 : Nat) (hn : n ≤ l.length) (hi : i0 ≤ n) (hh : HeapFrom l n (i0 + 1)) (hok : ∀ a ∈ l, okO a) (hl : l.length ≤ 128) :
    Ct Try.prog 63 [.iface 84 (bptr b 0), .int .i64 (i0 : Int), .int .i64 (n : Int)] [box b [.slice q l.length c] 80, own (.slice q l.length c) 82 3 l.length (flat fO l)]
      fun v H' => ∃ l' r, DownR l n i0 l' ∧ v = .bool r ∧ H' = [box b [.slice q l.length c] 80, own (.slice q l.length c) 82 3 l.length (flat fO l')] := by
  obtain ⟨N, hN⟩ : ∃ N, l.length = N := ⟨_, rfl⟩
  rw [hN] at hn hl ⊢
  (refine spec_enter Try.func63 Try.ntmps63 rfl rfl fun Fr => ?_; dsimp only [List.cons_append, List.nil_append, ini, Nat.reduceAdd])
  (repeat' (first | (apply run_qg 1; (focus rfl); (focus exact wt); (focus rfl); (focus (exact qg1))) | refine cod_seq ?_ | refine cod_region ?_ | refine run_nil ?_ | refine pst_then ?_ | refine cod_block ?_))
  (refine cod_loop_rw (σ := Nat × List One) (fun x => Dn l x.2 n i0 x.1 ∧ x.1 ≤ n) (fun x => [(7, .int .i64 (x.1 : Int))]) (fun x => [own (.slice q N c) 82 3 N (flat fO x.2)]) _ (fun x => n - x.1) ((i0, l)) (by exact ⟨dn_start hh, hi⟩) (by exact fsa) (by (first | exact HSub.of_picks_rest (by exact pca))) (fun ⟨i, l1⟩ ⟨hd, hin⟩ => ?_); dsimp only [List.cons_append, List.nil_append])
  dsimp only at hd hin ⊢
  have hl1 : l1.length = N := by rw [hd.len, hN]
  have ok1 : ∀ a ∈ l1, okO a := fun a ha => hok a (hd.perm.mem_iff.1 ha)
  have hj1 : 2 * (i : Int) + 1 = ((2 * i + 1 : Nat) : Int) := by omega
  have hj2 : ((2 * i + 1 : Nat) : Int) + 1 = ((2 * i + 2 : Nat) : Int) := by omega
  rcases Nat.lt_or_ge (2 * i + 1) n with hlt | hge
  · obtain ⟨x, hx⟩ : ∃ x, l1[i]? = some x := ⟨_, List.getElem?_eq_getElem (by omega)⟩
    obtain ⟨y1, hy1⟩ : ∃ x, l1[2 * i + 1]? = some x := ⟨_, List.getElem?_eq_getElem (by omega)⟩
    have okx := ok1 x (List.mem_of_getElem? hx)
    have ok1y := ok1 y1 (List.mem_of_getElem? hy1)
    have LS := fun (i j : Nat) (x y : One) (h1 : l1[i]? = some x) (h2 : l1[j]? = some y) (h3 : okO x) (h4 : okO y) => less_any q c l1 i j h1 h2 h3 h4
    have SW := fun (i j : Nat) (x y : One) (h1 : l1[i]? = some x) (h2 : l1[j]? = some y) (h3 : i ≠ j) => swap_any q c l1 i j h1 h2 h3
    rw [hl1] at LS SW
    rcases Nat.lt_or_ge (2 * i + 2) n with hlt2 | hge2
    · obtain ⟨y2, hy2⟩ : ∃ x, l1[2 * i + 2]? = some x := ⟨_, List.getElem?_eq_getElem (by omega)⟩
      have ok2y := ok1 y2 (List.mem_of_getElem? hy2)
      have L21 := LS (2 * i + 2) (2 * i + 1) y2 y1 hy2 hy1 ok2y ok1y
      by_cases h21 : better y2 y1 = true
      · rw [h21] at L21
        have LJ := LS (2 * i + 2) i y2 x hy2 hx ok2y okx
        (repeat' (first | (apply run_qg 1; (focus rfl); (focus exact wt); (focus rfl); (focus (exact qg1))) | (apply run_qg 4; (focus rfl); (focus exact wt); (focus rfl); (focus (first | exact qg4 | exact qs4))) | refine cod_seq ?_ | refine cod_region ?_ | refine run_nil ?_ | refine pst_then ?_ | (apply cod_cond_f; (focus rfl)) | refine cod_block ?_ | refine cod_skip ?_))
        rw [hj1, hj2]
        refine run_os wt rfl (opr_invoke_s rfl rfl (recv_box pka) L21 rfl lpa) ?_
        rintro _ _ ⟨rfl, rfl⟩
        (repeat' (first | (apply run_qg 1; (focus rfl); (focus exact wt); (focus rfl); (focus (exact qg1))) | refine cod_seq ?_ | refine cod_region ?_ | refine run_nil ?_ | refine pst_then ?_ | (apply cod_cond_t; (focus rfl))))
        by_cases hb : better y2 x = true
        · rw [hb] at LJ
          refine run_os wt rfl (opr_invoke_s rfl rfl (recv_box pka) LJ rfl lpa) ?_
          rintro _ _ ⟨rfl, rfl⟩
          (repeat' (first | (apply run_qg 1; (focus rfl); (focus exact wt); (focus rfl); (focus (exact qg1))) | (apply run_qg 4; (focus rfl); (focus exact wt); (focus rfl); (focus (first | exact qg4 | exact qs4))) | refine cod_seq ?_ | refine cod_region ?_ | refine run_nil ?_ | refine pst_then ?_ | (apply cod_cond_f; (focus rfl)) | refine cod_skip ?_))
          refine run_os wt rfl (opr_invoke rfl rfl (recv_box pka) (SW i (2 * i + 2) x y2 hx hy2 (by omega)) rfl lpa) ?_
          rintro _ _ ⟨_, ⟨rfl, rfl⟩, rfl⟩
          dsimp only [List.cons_append, List.nil_append]
          (repeat' (first | (apply run_qg 1; (focus rfl); (focus exact wt); (focus rfl); (focus (exact qg1))) | refine cod_region ?_ | refine run_nil ?_ | refine pst_then ?_ | refine pst_block ?_))
          refine pst_again ((2 * i + 2, swp l1 i (2 * i + 2) x y2)) ?_ (FSub.of (by (try dsimp only); exact fsa)) (by (try dsimp only); exact hsa) ?_
          · exact ⟨dn_next hd (by omega) hx hy2 (by omega) (by omega) hb (fun c z h1 h2 h3 h4 => by
            rcases h1 with rfl | rfl
            · rw [hy1] at h4
              cases h4
              exact better_asym h21
            · exact absurd rfl h3), by dsimp only; omega⟩
          · dsimp only; omega
        · have hb' : better y2 x = false := by simpa using hb
          rw [hb'] at LJ
          have hD := down_of hd (fun c a b h1 h2 h3 h4 => by
            rw [hx] at h4
            cases h4
            rcases h1 with rfl | rfl
            · rw [hy1] at h3
              cases h3
              exact not_trans ok1y ok2y okx (better_asym h21) hb'
            · rw [hy2] at h3
              cases h3
              exact hb')
          refine run_os wt rfl (opr_invoke_s rfl rfl (recv_box pka) LJ rfl lpa) ?_
          rintro _ _ ⟨rfl, rfl⟩
          by_cases hgt : i0 < i
          · (repeat' (first | (apply run_qg 1; (focus rfl); (focus exact wt); (focus rfl); (focus (exact qg1))) | (apply run_qg 4; (focus rfl); (focus exact wt); (focus rfl); (focus (first | exact qg4 | exact qs4))) | refine cod_seq ?_ | refine cod_region ?_ | refine run_nil ?_ | refine pst_then ?_ | (apply cod_cond_t; (focus rfl)) | refine cod_exit ?_ | refine cod_ret ?_ | refine pst_block_here ?_ | refine pst_block_out rfl ?_ | refine pst_then_exit ?_))
            exact pst_fin rfl (by exact resa) _ (⟨l1, true, hD, rfl, rfl⟩) (by exact hsa)
          · (repeat' (first | (apply run_qg 1; (focus rfl); (focus exact wt); (focus rfl); (focus (exact qg1))) | (apply run_qg 4; (focus rfl); (focus exact wt); (focus rfl); (focus (first | exact qg4 | exact qs4))) | refine cod_seq ?_ | refine cod_region ?_ | refine run_nil ?_ | refine pst_then ?_ | (apply cod_cond_t; (focus rfl)) | refine cod_exit ?_ | refine cod_ret ?_ | refine pst_block_here ?_ | refine pst_block_out rfl ?_ | refine pst_then_exit ?_))
            exact pst_fin rfl (by exact resa) _ (⟨l1, false, hD, rfl, rfl⟩) (by exact hsa)
      · have h21' : better y2 y1 = false := by simpa using h21
        rw [h21'] at L21
        have LJ := LS (2 * i + 1) i y1 x hy1 hx ok1y okx
        (repeat' (first | (apply run_qg 1; (focus rfl); (focus exact wt); (focus rfl); (focus (exact qg1))) | (apply run_qg 4; (focus rfl); (focus exact wt); (focus rfl); (focus (first | exact qg4 | exact qs4))) | refine cod_seq ?_ | refine cod_region ?_ | refine run_nil ?_ | refine pst_then ?_ | (apply cod_cond_f; (focus rfl)) | refine cod_block ?_ | refine cod_skip ?_))
        rw [hj1, hj2]
        refine run_os wt rfl (opr_invoke_s rfl rfl (recv_box pka) L21 rfl lpa) ?_
        rintro _ _ ⟨rfl, rfl⟩
        (repeat' (first | (apply run_qg 1; (focus rfl); (focus exact wt); (focus rfl); (focus (exact qg1))) | refine cod_seq ?_ | refine cod_region ?_ | refine run_nil ?_ | refine pst_then ?_ | (apply cod_cond_f; (focus rfl)) | refine cod_skip ?_))
        by_cases hb : better y1 x = true
        · rw [hb] at LJ
          refine run_os wt rfl (opr_invoke_s rfl rfl (recv_box pka) LJ rfl lpa) ?_
          rintro _ _ ⟨rfl, rfl⟩
          (repeat' (first | (apply run_qg 1; (focus rfl); (focus exact wt); (focus rfl); (focus (exact qg1))) | (apply run_qg 4; (focus rfl); (focus exact wt); (focus rfl); (focus (first | exact qg4 | exact qs4))) | refine cod_seq ?_ | refine cod_region ?_ | refine run_nil ?_ | refine pst_then ?_ | (apply cod_cond_f; (focus rfl)) | refine cod_skip ?_))
          refine run_os wt rfl (opr_invoke rfl rfl (recv_box pka) (SW i (2 * i + 1) x y1 hx hy1 (by omega)) rfl lpa) ?_
          rintro _ _ ⟨_, ⟨rfl, rfl⟩, rfl⟩
          dsimp only [List.cons_append, List.nil_append]
          (repeat' (first | (apply run_qg 1; (focus rfl); (focus exact wt); (focus rfl); (focus (exact qg1))) | refine cod_region ?_ | refine run_nil ?_ | refine pst_then ?_ | refine pst_block ?_))
          refine pst_again ((2 * i + 1, swp l1 i (2 * i + 1) x y1)) ?_ (FSub.of (by (try dsimp only); exact fsa)) (by (try dsimp only); exact hsa) ?_
          · exact ⟨dn_next hd (by omega) hx hy1 (by omega) (by omega) hb (fun c z h1 h2 h3 h4 => by
            rcases h1 with rfl | rfl
            · exact absurd rfl h3
            · rw [hy2] at h4
              cases h4
              exact h21'), by dsimp only; omega⟩
          · dsimp only; omega
        · have hb' : better y1 x = false := by simpa using hb
          rw [hb'] at LJ
          have hD := down_of hd (fun c a b h1 h2 h3 h4 => by
            rw [hx] at h4
            cases h4
            rcases h1 with rfl | rfl
            · rw [hy1] at h3
              cases h3
              exact hb'
            · rw [hy2] at h3
              cases h3
              exact not_trans ok2y ok1y okx h21' hb')
          refine run_os wt rfl (opr_invoke_s rfl rfl (recv_box pka) LJ rfl lpa) ?_
          rintro _ _ ⟨rfl, rfl⟩
          by_cases hgt : i0 < i
          · (repeat' (first | (apply run_qg 1; (focus rfl); (focus exact wt); (focus rfl); (focus (exact qg1))) | (apply run_qg 4; (focus rfl); (focus exact wt); (focus rfl); (focus (first | exact qg4 | exact qs4))) | refine cod_seq ?_ | refine cod_region ?_ | refine run_nil ?_ | refine pst_then ?_ | (apply cod_cond_t; (focus rfl)) | refine cod_exit ?_ | refine cod_ret ?_ | refine pst_block_here ?_ | refine pst_block_out rfl ?_ | refine pst_then_exit ?_))
            exact pst_fin rfl (by exact resa) _ (⟨l1, true, hD, rfl, rfl⟩) (by exact hsa)
          · (repeat' (first | (apply run_qg 1; (focus rfl); (focus exact wt); (focus rfl); (focus (exact qg1))) | (apply run_qg 4; (focus rfl); (focus exact wt); (focus rfl); (focus (first | exact qg4 | exact qs4))) | refine cod_seq ?_ | refine cod_region ?_ | refine run_nil ?_ | refine pst_then ?_ | (apply cod_cond_t; (focus rfl)) | refine cod_exit ?_ | refine cod_ret ?_ | refine pst_block_here ?_ | refine pst_block_out rfl ?_ | refine pst_then_exit ?_))
            exact pst_fin rfl (by exact resa) _ (⟨l1, false, hD, rfl, rfl⟩) (by exact hsa)
    · have LJ := LS (2 * i + 1) i y1 x hy1 hx ok1y okx
      (repeat' (first | (apply run_qg 1; (focus rfl); (focus exact wt); (focus rfl); (focus (exact qg1))) | (apply run_qg 4; (focus rfl); (focus exact wt); (focus rfl); (focus (first | exact qg4 | exact qs4))) | refine cod_seq ?_ | refine cod_region ?_ | refine run_nil ?_ | refine pst_then ?_ | (apply cod_cond_f; (focus rfl)) | refine cod_block ?_ | refine cod_skip ?_ | (apply run_offs; (focus rfl); (focus rfl); (focus rfl))))
      rw [hj1]
      by_cases hb : better y1 x = true
      · rw [hb] at LJ
        refine run_os wt rfl (opr_invoke_s rfl rfl (recv_box pka) LJ rfl lpa) ?_
        rintro _ _ ⟨rfl, rfl⟩
        (repeat' (first | (apply run_qg 1; (focus rfl); (focus exact wt); (focus rfl); (focus (exact qg1))) | (apply run_qg 4; (focus rfl); (focus exact wt); (focus rfl); (focus (first | exact qg4 | exact qs4))) | refine cod_seq ?_ | refine cod_region ?_ | refine run_nil ?_ | refine pst_then ?_ | (apply cod_cond_f; (focus rfl)) | refine cod_skip ?_))
        refine run_os wt rfl (opr_invoke rfl rfl (recv_box pka) (SW i (2 * i + 1) x y1 hx hy1 (by omega)) rfl lpa) ?_
        rintro _ _ ⟨_, ⟨rfl, rfl⟩, rfl⟩
        dsimp only [List.cons_append, List.nil_append]
        (repeat' (first | (apply run_qg 1; (focus rfl); (focus exact wt); (focus rfl); (focus (exact qg1))) | refine cod_region ?_ | refine run_nil ?_ | refine pst_then ?_ | refine pst_block ?_))
        refine pst_again ((2 * i + 1, swp l1 i (2 * i + 1) x y1)) ?_ (FSub.of (by (try dsimp only); exact fsa)) (by (try dsimp only); exact hsa) ?_
        · exact ⟨dn_next hd (by omega) hx hy1 (by omega) (by omega) hb (fun c z h1 h2 h3 h4 => by omega), by dsimp only; omega⟩
        · dsimp only; omega
      · have hb' : better y1 x = false := by simpa using hb
        rw [hb'] at LJ
        have hD := down_of hd (fun c a b h1 h2 h3 h4 => by
          rw [hx] at h4
          cases h4
          rcases h1 with rfl | rfl
          · rw [hy1] at h3
            cases h3
            exact hb'
          · omega)
        refine run_os wt rfl (opr_invoke_s rfl rfl (recv_box pka) LJ rfl lpa) ?_
        rintro _ _ ⟨rfl, rfl⟩
        by_cases hgt : i0 < i
        · (repeat' (first | (apply run_qg 1; (focus rfl); (focus exact wt); (focus rfl); (focus (exact qg1))) | (apply run_qg 4; (focus rfl); (focus exact wt); (focus rfl); (focus (first | exact qg4 | exact qs4))) | refine cod_seq ?_ | refine cod_region ?_ | refine run_nil ?_ | refine pst_then ?_ | (apply cod_cond_t; (focus rfl)) | refine cod_exit ?_ | refine cod_ret ?_ | refine pst_block_here ?_ | refine pst_block_out rfl ?_ | refine pst_then_exit ?_))
          exact pst_fin rfl (by exact resa) _ (⟨l1, true, hD, rfl, rfl⟩) (by exact hsa)
        · (repeat' (first | (apply run_qg 1; (focus rfl); (focus exact wt); (focus rfl); (focus (exact qg1))) | (apply run_qg 4; (focus rfl); (focus exact wt); (focus rfl); (focus (first | exact qg4 | exact qs4))) | refine cod_seq ?_ | refine cod_region ?_ | refine run_nil ?_ | refine pst_then ?_ | (apply cod_cond_t; (focus rfl)) | refine cod_exit ?_ | refine cod_ret ?_ | refine pst_block_here ?_ | refine pst_block_out rfl ?_ | refine pst_then_exit ?_))
          exact pst_fin rfl (by exact resa) _ (⟨l1, false, hD, rfl, rfl⟩) (by exact hsa)
  · have hf : Fine l1 n i := fun c a b h1 h2 => by omega
    have hD := down_of hd hf
    by_cases hgt : i0 < i
    · (repeat' (first | (apply run_qg 1; (focus rfl); (focus exact wt); (focus rfl); (focus (exact qg1))) | (apply run_qg 4; (focus rfl); (focus exact wt); (focus rfl); (focus (first | exact qg4 | exact qs4))) | refine cod_seq ?_ | refine cod_region ?_ | refine run_nil ?_ | refine pst_then ?_ | (apply cod_cond_t; (focus rfl)) | refine cod_block ?_ | refine cod_exit ?_ | refine cod_ret ?_ | refine pst_block_here ?_ | refine pst_block_out rfl ?_ | refine pst_then_exit ?_ | (apply run_offs; (focus rfl); (focus rfl); (focus rfl))))
      exact pst_fin rfl (by exact resa) _ (⟨l1, true, hD, rfl, rfl⟩) (by exact hsa)
    · (repeat' (first | (apply run_qg 1; (focus rfl); (focus exact wt); (focus rfl); (focus (exact qg1))) | (apply run_qg 4; (focus rfl); (focus exact wt); (focus rfl); (focus (first | exact qg4 | exact qs4))) | refine cod_seq ?_ | refine cod_region ?_ | refine run_nil ?_ | refine pst_then ?_ | (apply cod_cond_t; (focus rfl)) | refine cod_block ?_ | refine cod_exit ?_ | refine cod_ret ?_ | refine pst_block_here ?_ | refine pst_block_out rfl ?_ | refine pst_then_exit ?_ | (apply run_offs; (focus rfl); (focus rfl); (focus rfl))))
      exact pst_fin rfl (by exact resa) _ (⟨l1, false, hD, rfl, rfl⟩) (by exact hsa)
set_option maxRecDepth 100000 in
set_option maxHeartbeats 8000000 in
theorem init_any (b : Nat) (q : Option Addr) (c : Nat) (l : List One) (hok : ∀ a ∈ l, okO a) (hl : l.length ≤ 128) :
    Ct Try.prog 32 [.iface 84 (bptr b 0)] [box b [.slice q l.length c] 80, own (.slice q l.length c) 82 3 l.length (flat fO l)]
      fun v H' => ∃ l', (HeapFrom l' l.length 0 ∧ l'.Perm l) ∧ v = .tuple #[] ∧ H' = [box b [.slice q l.length c] 80, own (.slice q l.length c) 82 3 l.length (flat fO l')] := by
  obtain ⟨N, hN⟩ : ∃ N, l.length = N := ⟨_, rfl⟩
  rw [hN] at hl ⊢
  have hhalf : (N : Int) / 2 = ((N / 2 : Nat) : Int) := by omega
  have LN := len_any q N c
  (refine spec_enter Try.func32 Try.ntmps32 rfl rfl fun Fr => ?_; dsimp only [List.cons_append, List.nil_append, ini, Nat.reduceAdd])
  (repeat' (first | (apply run_qg 1; (focus rfl); (focus exact wt); (focus rfl); (focus (exact qg1))) | refine cod_seq ?_ | refine cod_region ?_))
  refine run_os wt rfl (opr_invoke_s rfl rfl (recv_box pka) LN rfl lpa) ?_
  rintro _ _ ⟨rfl, rfl⟩
  (repeat' (first | (apply run_qg 1; (focus rfl); (focus exact wt); (focus rfl); (focus (exact qg1))) | (apply run_qg 4; (focus rfl); (focus exact wt); (focus rfl); (focus (first | exact qg4 | exact qs4))) | refine cod_seq ?_ | refine cod_region ?_ | refine run_nil ?_ | refine pst_then ?_ | refine cod_block ?_))
  rw [hhalf]
  (refine cod_loop_rw (σ := Nat × List One) (fun x => (x.1 ≤ N / 2 ∧ x.2.length = N) ∧ HeapFrom x.2 N x.1 ∧ x.2.Perm l) (fun x => [(3, .int .i64 ((x.1 : Int) - 1))]) (fun x => [box b [.slice q N c] 80, own (.slice q N c) 82 3 N (flat fO x.2)]) _ (fun x => x.1) ((N / 2, l)) (by exact ⟨⟨Nat.le_refl _, hN⟩, heap_half l N, List.Perm.refl _⟩) (by exact fsa) (by (first | exact HSub.of_picks_rest (by exact pca))) (fun ⟨j, l1⟩ ⟨⟨hj, hl1⟩, hh, hp⟩ => ?_); dsimp only [List.cons_append, List.nil_append])
  dsimp only at hj hl1 hh hp ⊢
  cases j with
  | zero =>
    (repeat' (first | (apply run_qg 1; (focus rfl); (focus exact wt); (focus rfl); (focus (exact qg1))) | (apply run_qg 4; (focus rfl); (focus exact wt); (focus rfl); (focus (first | exact qg4 | exact qs4))) | refine cod_seq ?_ | refine cod_region ?_ | refine run_nil ?_ | refine pst_then ?_ | (apply cod_cond_f; (focus rfl)) | refine cod_exit ?_ | refine pst_block_here ?_ | refine pst_then_exit ?_))
    exact pst_fin_end rfl (by exact resa) _ (⟨l1, ⟨hh, hp⟩, rfl, rfl⟩) (by exact hsa)
  | succ i =>
    have hji : ((i + 1 : Nat) : Int) - 1 = (i : Int) := by omega
    rw [hji]
    have DW := down_any b q c l1 N i (by omega) (by omega) hh (fun a ha => hok a (hp.mem_iff.1 ha)) (by omega)
    rw [hl1] at DW
    (repeat' (first | (apply run_qg 1; (focus rfl); (focus exact wt); (focus rfl); (focus (exact qg1))) | (apply run_qg 4; (focus rfl); (focus exact wt); (focus rfl); (focus (first | exact qg4 | exact qs4))) | refine cod_seq ?_ | refine cod_region ?_ | refine run_nil ?_ | refine pst_then ?_ | (apply cod_cond_t; (focus rfl)) | refine cod_block ?_ | refine cod_skip ?_))
    (refine run_os wt rfl (opr_call_l rfl (DW) rfl (by exact lpa)) ?_; rintro _ _ ⟨_, ⟨l2, r, hD, rfl, rfl⟩, rfl⟩; dsimp only [List.cons_append, List.nil_append])
    (repeat' (first | (apply run_qg 1; (focus rfl); (focus exact wt); (focus rfl); (focus (exact qg1))) | (apply run_qg 4; (focus rfl); (focus exact wt); (focus rfl); (focus (first | exact qg4 | exact qs4))) | refine cod_region ?_ | refine run_nil ?_ | refine pst_then ?_ | refine pst_block ?_))
    refine pst_again ((i, l2)) ?_ (FSub.of (by (try dsimp only); exact fsa)) (by (try dsimp only); exact hsa) ?_
    · exact ⟨⟨by dsimp only; omega, by have := hD.2.2.1; dsimp only; omega⟩, hD.1, hD.2.1.trans hp⟩
    · dsimp only; omega
theorem swap_0 (q : Option Addr) (c : Nat) (l : List One) (m : Nat) {x y : One} (hx : l[0]? = some x) (hy : l[m]? = some y) : Ct Try.prog 134 [.slice q l.length c, .int .i64 0, .int .i64 (m : Int)] [own (.slice q l.length c) 82 3 l.length (flat fO l)] fun v H' => v = .tuple #[] ∧ H' = [own (.slice q l.length c) 82 3 l.length (flat fO (if m = 0 then l else swp l 0 m x y))] := by
  by_cases hm : m = 0
  · subst hm
    rw [if_pos rfl]
    exact swap_same q c l 0 hx
  · rw [if_neg hm]
    exact swap_any q c l 0 m hx hy (fun h => hm h.symm)
set_option maxRecDepth 100000 in
set_option maxHeartbeats 8000000 in
theorem hpop_any (b : Nat) (q : Option Addr) (c m : Nat) (l : List One) (hm : l.length = m + 1) (hok : ∀ a ∈ l, okO a) (hl : m ≤ 127) (hh : HeapFrom l (m + 1) 0) :
    Ct Try.prog 34 [.iface 84 (bptr b 0)] [box b [.slice q (m + 1) c] 80, own (.slice q (m + 1) c) 82 3 (m + 1) (flat fO l)]
      fun v H' => ∃ x l', (l'.length = m ∧ HeapFrom l' m 0 ∧ l.Perm (x :: l') ∧ ∀ a ∈ l', better a x = false) ∧ v = .iface 82 (.agg (fO x).toArray) ∧ H' = [box b [.slice q m c] 80, own (.slice q m c) 82 3 m (flat fO l')] := by
  obtain ⟨x, hx⟩ : ∃ x, l[0]? = some x := ⟨_, List.getElem?_eq_getElem (by omega)⟩
  obtain ⟨y, hy⟩ : ∃ x, l[m]? = some x := ⟨_, List.getElem?_eq_getElem (by omega)⟩
  have LN := len_any q (m + 1) c
  have SW := swap_0 q c l m hx hy
  have hmI : ((m + 1 : Nat) : Int) - 1 = (m : Int) := by omega
  obtain ⟨l1, h1⟩ : ∃ l1, l1 = if m = 0 then l else swp l 0 m x y := ⟨_, rfl⟩
  rw [← h1, hm] at SW
  have PL := fun l2 => pop_law (l2 := l2) hm hok hh hx hy h1
  obtain ⟨p1, p2, p3, _⟩ := PL []
  have DW := down_any b q c l1 m 0 (by omega) (Nat.zero_le _) p1 (fun a ha => hok a (p2.mem_iff.1 ha)) (by omega)
  rw [p3] at DW
  (refine spec_enter Try.func34 Try.ntmps34 rfl rfl fun Fr => ?_; dsimp only [List.cons_append, List.nil_append, ini, Nat.reduceAdd])
  (repeat' (first | (apply run_qg 1; (focus rfl); (focus exact wt); (focus rfl); (focus (exact qg1))) | refine cod_seq ?_ | refine cod_region ?_ | refine run_nil ?_ | refine pst_then ?_))
  refine run_os wt rfl (opr_invoke_s rfl rfl (recv_box pka) LN rfl lpa) ?_
  rintro _ _ ⟨rfl, rfl⟩
  (repeat' (first | (apply run_qg 1; (focus rfl); (focus exact wt); (focus rfl); (focus (exact qg1))) | (apply run_qg 4; (focus rfl); (focus exact wt); (focus rfl); (focus (first | exact qg4 | exact qs4))) | refine cod_seq ?_ | refine cod_region ?_ | refine run_nil ?_ | refine pst_then ?_))
  rw [hmI]
  skip
  refine run_os wt rfl (opr_invoke rfl rfl (recv_box pka) SW rfl lpa) ?_
  rintro _ _ ⟨_, ⟨rfl, rfl⟩, rfl⟩
  dsimp only [List.cons_append, List.nil_append]
  (repeat' (first | (apply run_qg 1; (focus rfl); (focus exact wt); (focus rfl); (focus (exact qg1))) | refine cod_seq ?_ | refine cod_region ?_ | refine run_nil ?_ | refine pst_then ?_))
  (refine run_os wt rfl (opr_call_l rfl (DW) rfl (by exact lpa)) ?_; rintro _ _ ⟨_, ⟨l2, r, hD, rfl, rfl⟩, rfl⟩; dsimp only [List.cons_append, List.nil_append])
  obtain ⟨d1, d2, d3, d4⟩ := hD
  obtain ⟨_, _, _, p4⟩ := PL l2
  obtain ⟨e1, e2, e3, e4⟩ := p4 d1 d2 (by omega) (d4 m (Nat.le_refl _))
  have PP := pop_any b q c m l2 (x := x) (by omega) e1 (by omega)
  rw [show l2.length = m + 1 by omega] at PP
  (repeat' (first | (apply run_qg 1; (focus rfl); (focus exact wt); (focus rfl); (focus (exact qg1))) | refine cod_seq ?_ | refine cod_region ?_ | refine run_nil ?_ | refine pst_then ?_))
  refine run_os wt rfl (opr_invoke rfl rfl recv_self PP rfl lpa) ?_
  rintro _ _ ⟨_, ⟨rfl, rfl⟩, rfl⟩
  dsimp only [List.cons_append, List.nil_append]
  (repeat' (first | (apply run_qg 1; (focus rfl); (focus exact wt); (focus rfl); (focus (exact qg1))) | refine run_nil ?_ | refine pst_then ?_ | refine cod_ret ?_))
  exact pst_fin rfl (by exact resa) _ (⟨x, l2.dropLast, ⟨by rw [List.length_dropLast]; omega, e2, e3, e4⟩, rfl, rfl⟩) (by exact hsa)
end Go.Proofs.Ytkkgmgffkjeklaa.pick
