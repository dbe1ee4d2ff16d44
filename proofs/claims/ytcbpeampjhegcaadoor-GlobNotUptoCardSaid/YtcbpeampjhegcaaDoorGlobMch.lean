/-
  glob.Match: the walk. (SAFE)
-/
import Derived.Test.YtcbpeampjhegcaaDoorGlobPrt
import Derived.Test.YtcbpeampjhegcaaDoorGlobMat
namespace Go.Proofs.YtcbpeampjhegcaaDoor.glob
open Go.RowKit kit sl
set_option linter.unusedVariables false
def starI : Option Nat → Int
  | none => -1
  | some s => (s : Int)
def MatchR (p s : List UInt8) (v : Value) (H' : List Ent) : Prop :=
  (40 < p.length ∨ 40 < s.length) ∧ v = .tuple #[.bool false, .int .i64 2] ∧ H' = [] ∨
  ¬ (40 < p.length ∨ 40 < s.length) ∧ partsS (sigs p) = none ∧ v = .tuple #[.bool false, .int .i64 4] ∧ H' = [] ∨
  ¬ (40 < p.length ∨ 40 < s.length) ∧ ∃ ps b, partsS (sigs p) = some ps ∧ (b = true ↔ M ps (sigs s)) ∧ v = .tuple #[.bool b, .int .i64 0] ∧ H' = []
theorem partsF_len : ∀ (f : Nat) (l : List Nat) (ps : List Pt), partsF f l = some ps → ps.length ≤ l.length
  | f, [], ps, h => by
    have : ps = [] := by cases f <;> (cases h; rfl)
    rw [this]
    exact Nat.le_refl _
  | 0, _ :: _, _, h => by cases h
  | f + 1, y :: l, ps, h => by
    rw [partsF] at h
    cases hn : nextS (y :: l) with
    | none => rw [hn] at h; cases h
    | some w =>
      obtain ⟨c, b, r⟩ := w
      rw [hn] at h
      dsimp only at h
      cases hp : pieceS c b r with
      | none => rw [hp] at h; cases h
      | some w =>
        obtain ⟨p, r'⟩ := w
        rw [hp] at h
        dsimp only at h
        cases hr : partsF f r' with
        | none => rw [hr] at h; cases h
        | some qs =>
          rw [hr] at h
          cases h
          have h1 := partsF_len f r' qs hr
          have h2 := pieceS_less hp
          have h3 := (next_less hn).1
          rw [List.length_cons]
          omega
theorem parts_len {s : List UInt8} {ps : List Pt} (h : partsS (sigs s) = some ps) : ps.length ≤ s.length :=
  Nat.le_trans (partsF_len _ _ _ h) (sig_bd (sig_sigs s)).1
theorem classF_spans : ∀ (f : Nat) (l : List Nat) (acc sp : List (Nat × Nat)) (r : List Nat), classF f l acc = some (sp, r) → sp.length ≤ acc.length + l.length
  | 0, _, _, _, _, h => by cases h
  | f + 1, l, acc, sp, r, h => by
    rw [classF] at h
    cases hn : nextS l with
    | none => rw [hn] at h; cases h
    | some x =>
      obtain ⟨c, plain, t⟩ := x
      have hl := (next_less hn).1
      rw [hn] at h
      dsimp only at h
      by_cases hc : c = 93 ∧ plain = false
      · rw [if_pos hc] at h
        by_cases ha : acc = []
        · rw [if_pos ha] at h; cases h
        · rw [if_neg ha] at h; cases h; omega
      · rw [if_neg hc] at h
        cases hg : rangeS t with
        | none =>
          rw [hg] at h
          have := classF_spans f _ _ _ _ h
          rw [List.length_append, List.length_singleton] at this
          omega
        | some r' =>
          rw [hg] at h
          dsimp only at h
          have hl3 := range_less hg
          cases hm : nextS r' with
          | none => rw [hm] at h; cases h
          | some y =>
            obtain ⟨hh, _, r2⟩ := y
            have hl2 := (next_less hm).1
            rw [hm] at h
            dsimp only at h
            by_cases hlt : hh < c
            · rw [if_pos hlt] at h; cases h
            · rw [if_neg hlt] at h
              have := classF_spans f _ _ _ _ h
              rw [List.length_append, List.length_singleton] at this
              omega
theorem classS_spans {l r : List Nat} {p : Pt} (h : classS l = some (p, r)) : p.2.2.length ≤ l.length := by
  unfold classS at h
  split at h
  · cases hc : classF (l.tail.length + 1) l.tail [] with
    | none => rw [hc] at h; cases h
    | some y =>
      rw [hc] at h
      have := classF_spans _ _ _ y.1 y.2 hc
      cases h
      rw [List.length_tail] at this
      rw [List.length_nil] at this
      show y.1.length ≤ l.length
      omega
  · cases hc : classF (l.length + 1) l [] with
    | none => rw [hc] at h; cases h
    | some y =>
      rw [hc] at h
      have := classF_spans _ _ _ y.1 y.2 hc
      cases h
      rw [List.length_nil] at this
      show y.1.length ≤ l.length
      omega
theorem pieceS_spans {c : Nat} {b : Bool} {r r' : List Nat} {p : Pt} (h : pieceS c b r = some (p, r')) : p.2.2.length ≤ r.length + 1 := by
  unfold pieceS at h
  split at h
  · cases h; exact Nat.succ_le_succ (Nat.zero_le _)
  · split at h
    · cases h; exact Nat.zero_le _
    · split at h
      · cases h; exact Nat.zero_le _
      · split at h
        · have := classS_spans h; omega
        · cases h; exact Nat.succ_le_succ (Nat.zero_le _)
theorem partsF_spans : ∀ (f : Nat) (l : List Nat) (ps : List Pt), partsF f l = some ps → ∀ p ∈ ps, p.2.2.length ≤ l.length
  | f, [], ps, h, p, hp => by
    have : ps = [] := by cases f <;> (cases h; rfl)
    rw [this] at hp
    cases hp
  | 0, _ :: _, _, h, _, _ => by cases h
  | f + 1, y :: l, ps, h, p, hp => by
    rw [partsF] at h
    cases hn : nextS (y :: l) with
    | none => rw [hn] at h; cases h
    | some w =>
      obtain ⟨c, b, r⟩ := w
      rw [hn] at h
      dsimp only at h
      have h3 := (next_less hn).1
      cases hp2 : pieceS c b r with
      | none => rw [hp2] at h; cases h
      | some w =>
        obtain ⟨p', r'⟩ := w
        rw [hp2] at h
        dsimp only at h
        have h2 := pieceS_less hp2
        have h4 := pieceS_spans hp2
        cases hr : partsF f r' with
        | none => rw [hr] at h; cases h
        | some qs =>
          rw [hr] at h
          cases h
          rcases List.mem_cons.1 hp with rfl | hm
          · omega
          · have := partsF_spans f r' qs hr p hm
            omega
theorem parts_spans {s : List UInt8} {ps : List Pt} (h : partsS (sigs s) = some ps) {i : Nat} {p : Pt} (hp : ps[i]? = some p) : p.2.2.length ≤ s.length :=
  Nat.le_trans (partsF_spans _ _ _ h p (List.mem_of_getElem? hp)) (sig_bd (sig_sigs s)).1
theorem lot_mem {P : List PV} {i : Nat} {pv : PV} (h : P[i]? = some pv) : lotP pv ∈ P.map lotP := List.mem_map_of_mem (List.mem_of_getElem? h)
attribute [local irreducible] box own sl old bptr eptr Qt Opr Run Cod Pst Drn
attribute [local irreducible] partsS sigs decL takes
set_option maxRecDepth 100000 in
set_option maxHeartbeats 8000000 in
theorem match_far {W : World} (p s : List UInt8) (hp : p.length ≤ 140737488351232) (hs : s.length ≤ 140737488351232) (h : 40 < p.length ∨ 40 < s.length) :
    Ct Tryd.prog 6 [.string (str p), .string (str s)] [old W] fun v H' => v = .tuple #[.bool false, .int .i64 2] ∧ H' = [] := by
  by_cases h1 : 40 < p.length
  · (refine spec_enter Tryd.func6 Tryd.ntmps6 rfl rfl fun Fr => ?_; dsimp only [List.cons_append, List.nil_append, ini, Nat.reduceAdd])
    (repeat' (first | (apply run_qg 1; (focus rfl); (focus exact wt); (focus rfl); (focus (exact qg1))) | (apply run_qg 4; (focus rfl); (focus exact wt); (focus rfl); (focus (first | exact qg4 | exact qs4))) | (apply run_qg 6; (focus rfl); (focus exact wt); (focus rfl); (focus (first | exact qs6 | exact qg6 | exact q_max rfl rfl rfl | exact q_sliceData rfl rfl (by omega) | exact q_sliceDataN rfl rfl | exact q_unsafeStringN rfl rfl rfl | exact q_cap_slice rfl rfl))) | refine cod_seq ?_ | refine cod_region ?_ | refine run_nil ?_ | refine pst_then ?_ | (apply cod_cond_t; (focus rfl)) | refine cod_ret ?_ | refine pst_then_ret ?_ | (apply run_offs; (focus rfl); (focus rfl); (focus rfl)) | fail))
    exact pst_fin rfl (by exact resa) _ (⟨rfl, rfl⟩) (by exact hsa)
  · have h2 : 40 < s.length := by omega
    (refine spec_enter Tryd.func6 Tryd.ntmps6 rfl rfl fun Fr => ?_; dsimp only [List.cons_append, List.nil_append, ini, Nat.reduceAdd])
    (repeat' (first | (apply run_qg 1; (focus rfl); (focus exact wt); (focus rfl); (focus (exact qg1))) | (apply run_qg 4; (focus rfl); (focus exact wt); (focus rfl); (focus (first | exact qg4 | exact qs4))) | (apply run_qg 6; (focus rfl); (focus exact wt); (focus rfl); (focus (first | exact qs6 | exact qg6 | exact q_max rfl rfl rfl | exact q_sliceData rfl rfl (by omega) | exact q_sliceDataN rfl rfl | exact q_unsafeStringN rfl rfl rfl | exact q_cap_slice rfl rfl))) | refine cod_seq ?_ | refine cod_region ?_ | refine run_nil ?_ | refine pst_then ?_ | (apply cod_cond_t; (focus rfl)) | refine cod_ret ?_ | refine pst_then_ret ?_ | fail))
    exact pst_fin rfl (by exact resa) _ (⟨rfl, rfl⟩) (by exact hsa)
set_option maxRecDepth 100000 in
set_option maxHeartbeats 8000000 in
theorem match_none {W : World} (hT : TabsIn W) (p s : List UInt8) (h : ¬ (40 < p.length ∨ 40 < s.length)) (hn : partsS (sigs p) = none) :
    Ct Tryd.prog 6 [.string (str p), .string (str s)] [old W] fun v H' => v = .tuple #[.bool false, .int .i64 4] ∧ H' = [] := by
  have PA := parts_any hT p (by omega)
  rw [hn] at PA
  have PA : Ct Tryd.prog 11 [.string (str p)] [old W] fun v H' => v = .tuple #[.slice none 0 0, .bool false] ∧ H' = [] := PA
  (refine spec_enter Tryd.func6 Tryd.ntmps6 rfl rfl fun Fr => ?_; dsimp only [List.cons_append, List.nil_append, ini, Nat.reduceAdd])
  (repeat' (first | (apply run_qg 1; (focus rfl); (focus exact wt); (focus rfl); (focus (exact qg1))) | (apply run_qg 4; (focus rfl); (focus exact wt); (focus rfl); (focus (first | exact qg4 | exact qs4))) | (apply run_qg 6; (focus rfl); (focus exact wt); (focus rfl); (focus (first | exact qs6 | exact qg6 | exact q_max rfl rfl rfl | exact q_sliceData rfl rfl (by omega) | exact q_sliceDataN rfl rfl | exact q_unsafeStringN rfl rfl rfl | exact q_cap_slice rfl rfl))) | refine cod_seq ?_ | refine cod_region ?_ | refine run_nil ?_ | refine pst_then ?_ | (apply cod_cond_t; (focus rfl)) | (apply cod_cond_f; (focus rfl)) | refine cod_ret ?_ | refine cod_skip ?_ | refine pst_then_ret ?_ | (apply run_osg 7; (focus rfl); (focus exact wt); (focus rfl); (focus (exact opr_call_ls (by rfl) (PA ..) (by rfl) lpa)); (rintro _ _ ⟨rfl, rfl⟩)) | fail))
  exact pst_fin rfl (by exact resa) _ (⟨rfl, rfl⟩) (by exact hsa)
set_option maxRecDepth 100000 in
set_option maxHeartbeats 8000000 in
theorem match_some {W : World} (hT : TabsIn W) (p s : List UInt8) (h : ¬ (40 < p.length ∨ 40 < s.length)) {ps : List Pt} (hn : partsS (sigs p) = some ps) :
    Ct Tryd.prog 6 [.string (str p), .string (str s)] [old W] fun v H' => ∃ b, (b = true ↔ M ps (sigs s)) ∧ v = .tuple #[.bool b, .int .i64 0] ∧ H' = [] := by
  have PA := parts_any hT p (by omega)
  rw [hn] at PA
  have PA : Ct Tryd.prog 11 [.string (str p)] [old W] fun v H' => ∃ (P : List PV) (q : Option Addr) (c : Nat), P.map Prod.fst = ps ∧ v = .tuple #[.slice q P.length c, .bool true] ∧ H' = [own (.slice q P.length c) 40 3 P.length (flat fPt P), many 2 (P.map lotP)] := PA
  have LS := list_any hT s (by omega)
  have hpl := parts_len hn
  have hsp := fun i pt hi => parts_spans hn (i := i) (p := pt) hi
  have hsl := (sig_bd (sig_sigs s)).1
  generalize sigs s = t at *
  (refine spec_enter Tryd.func6 Tryd.ntmps6 rfl rfl fun Fr => ?_; dsimp only [List.cons_append, List.nil_append, ini, Nat.reduceAdd])
  (repeat' (first | (apply run_qg 1; (focus rfl); (focus exact wt); (focus rfl); (focus (exact qg1))) | (apply run_qg 4; (focus rfl); (focus exact wt); (focus rfl); (focus (first | exact qg4 | exact qs4))) | (apply run_qg 6; (focus rfl); (focus exact wt); (focus rfl); (focus (first | exact qs6 | exact qg6 | exact q_max rfl rfl rfl | exact q_sliceData rfl rfl (by omega) | exact q_sliceDataN rfl rfl | exact q_unsafeStringN rfl rfl rfl | exact q_cap_slice rfl rfl))) | refine cod_seq ?_ | refine cod_region ?_ | refine run_nil ?_ | refine pst_then ?_ | (apply cod_cond_f; (focus rfl)) | refine cod_skip ?_ | fail))
  (refine run_os wt rfl (opr_call rfl (PA) rfl (by exact pca)) ?_; rintro _ _ ⟨_, ⟨P, q1, c1, hP, rfl, rfl⟩, rfl⟩; (try dsimp only [List.cons_append, List.nil_append]))
  (repeat' (first | (apply run_qg 1; (focus rfl); (focus exact wt); (focus rfl); (focus (exact qg1))) | (apply run_qg 4; (focus rfl); (focus exact wt); (focus rfl); (focus (first | exact qg4 | exact qs4))) | refine cod_seq ?_ | refine cod_region ?_ | refine run_nil ?_ | refine pst_then ?_ | (apply cod_cond_f; (focus rfl)) | refine cod_skip ?_ | fail))
  (refine run_os wt rfl (opr_call_l rfl (LS) rfl (by exact lpa)) ?_; rintro _ _ ⟨_, ⟨q2, c2, rfl, rfl⟩, rfl⟩; dsimp only [List.cons_append, List.nil_append])
  (repeat' (first | (apply run_qg 1; (focus rfl); (focus exact wt); (focus rfl); (focus (exact qg1))) | refine cod_seq ?_ | refine cod_region ?_ | refine run_nil ?_ | refine pst_then ?_ | refine cod_block ?_ | fail))
  have hPl : P.length = ps.length := by rw [← hP, List.length_map]
  (refine cod_loop_ro (σ := Nat × Nat × Option Nat × Nat) (fun x => Gr ps t x.1 x.2.1 x.2.2.1 x.2.2.2 ∧ x.2.2.2 ≤ x.2.1) (fun x => [(9, .int .i64 (x.1 : Int)), (10, .int .i64 (x.2.1 : Int)), (11, .int .i64 (starI x.2.2.1)), (12, .int .i64 (x.2.2.2 : Int))]) (fun x => mu ps.length t.length x.1 x.2.1 x.2.2.2) ((0, 0, none, 0)) (by exact ⟨gr_start ps t, Nat.le_refl _⟩) (by exact fsa) (fun ⟨i, k, star, fr⟩ ⟨g, hfk⟩ => ?_); dsimp only [List.cons_append, List.nil_append])
  dsimp only at g hfk
  have gi := g.hi
  have gk := g.hk
  rcases get_or t k with ⟨c, hc, hkt⟩ | hge
  · rcases get_or P i with ⟨pv, hpv, hiP⟩ | hgi
    · have hpi : ps[i]? = some pv.1 := by rw [← hP, List.getElem?_map, hpv]; rfl
      obtain ⟨⟨run, nt, sp⟩, q5, c5⟩ := pv
      cases run with
      | true =>
        have g2 := gr_run g hpi rfl
        (repeat' (first | (apply run_qg 1; (focus rfl); (focus exact wt); (focus rfl); (focus (exact qg1))) | (apply run_qg 2; (focus rfl); (focus exact wt); (focus rfl); (focus (first | exact qg2 | exact qs2))) | (apply run_qg 3; (focus rfl); (focus exact wt); (focus rfl); (focus (first | exact qg3 | exact qs3))) | (apply run_qg 4; (focus rfl); (focus exact wt); (focus rfl); (focus (first | exact qg4 | exact qs4))) | (apply run_qg 6; (focus rfl); (focus exact wt); (focus rfl); (focus (first | exact qs6 | exact qg6 | exact q_max rfl rfl rfl | exact q_sliceData rfl rfl (by omega) | exact q_sliceDataN rfl rfl | exact q_unsafeStringN rfl rfl rfl | exact q_cap_slice rfl rfl))) | refine cod_seq ?_ | refine cod_region ?_ | refine run_nil ?_ | refine pst_then ?_ | (apply cod_cond_t; (focus rfl)) | refine cod_block ?_ | refine cod_skip ?_ | refine pst_block ?_ | fail))
        refine pst_again ((i + 1, k, some i, k)) ?_ (FSub.of (by (try dsimp only); exact fsa)) (by (try dsimp only); exact hsa) ?_
        · exact ⟨g2, Nat.le_refl _⟩
        · exact mu_run (by omega) hfk
      | false =>
        have hil := (List.getElem?_eq_some_iff.1 hpi).1
        have TK := takes_any q5 c5 false nt sp c (by have := hsp i _ hpi; dsimp only at this; omega)
        refine cod_heap (many_out (l := P.map lotP) pka (lot_mem hpv)) ?_
        cases htk : takes (false, nt, sp) c with
        | true =>
          have g2 := gr_one g hpi rfl hc htk
          rw [htk] at TK
          (repeat' (first | (apply run_qg 1; (focus rfl); (focus exact wt); (focus rfl); (focus (exact qg1))) | (apply run_qg 2; (focus rfl); (focus exact wt); (focus rfl); (focus (first | exact qg2 | exact qs2))) | (apply run_qg 3; (focus rfl); (focus exact wt); (focus rfl); (focus (first | exact qg3 | exact qs3))) | (apply run_qg 4; (focus rfl); (focus exact wt); (focus rfl); (focus (first | exact qg4 | exact qs4))) | (apply run_qg 6; (focus rfl); (focus exact wt); (focus rfl); (focus (first | exact qs6 | exact qg6 | exact q_max rfl rfl rfl | exact q_sliceData rfl rfl (by omega) | exact q_sliceDataN rfl rfl | exact q_unsafeStringN rfl rfl rfl | exact q_cap_slice rfl rfl))) | refine cod_seq ?_ | refine cod_region ?_ | refine run_nil ?_ | refine pst_then ?_ | (apply cod_cond_t; (focus rfl)) | (apply cod_cond_f; (focus rfl)) | refine cod_block ?_ | refine cod_skip ?_ | refine pst_block ?_ | (apply cod_drawn_k; (focus kernel_rfl); (focus (simp only [List.length_cons, List.length_nil, Nat.reduceAdd]; rfl))) | (apply drnK_take 1; (focus rfl); (focus rfl); (focus exact wt); (focus (decide +kernel)); (focus exact hsq); (focus rfl); (focus (exact qg1))) | (apply drnK_take 2; (focus rfl); (focus rfl); (focus exact wt); (focus (decide +kernel)); (focus exact hsq); (focus rfl); (focus (first | exact qg2 | exact qs2))) | (apply drnK_take 3; (focus rfl); (focus rfl); (focus exact wt); (focus (decide +kernel)); (focus exact hsq); (focus rfl); (focus (first | exact qg3 | exact qs3))) | (apply drnK_take 4; (focus rfl); (focus rfl); (focus exact wt); (focus (decide +kernel)); (focus exact hsq); (focus rfl); (focus (first | exact qg4 | exact qs4))) | (apply drnK_take 6; (focus rfl); (focus rfl); (focus exact wt); (focus (decide +kernel)); (focus exact hsq); (focus rfl); (focus (first | exact qs6 | exact qg6 | exact q_max rfl rfl rfl | exact q_sliceData rfl rfl (by omega) | exact q_sliceDataN rfl rfl | exact q_unsafeStringN rfl rfl rfl | exact q_cap_slice rfl rfl))) | (apply drnK_end; (focus (decide +kernel))) | (apply drnK_ones 7; (focus rfl); (focus rfl); (focus (decide +kernel)); (focus exact wt); (focus rfl); (focus (exact opr_call_ls (by rfl) (TK ..) (by rfl) lpa)); (rintro _ _ ⟨rfl, rfl⟩; refine ⟨(by first | exact fun h => absurd h (by decide) | exact fun _ => hsq), ?_⟩)) | fail))
          refine pst_again ((i + 1, k + 1, star, fr)) ?_ (FSub.of (by (try dsimp only); exact fsa)) (by (try dsimp only); exact hsa) ?_
          · exact ⟨g2, by dsimp only; omega⟩
          · exact mu_one hil hkt
        | false =>
          have st : Stuck ps t i k := ⟨hkt, fun p hp => by rw [hpi] at hp; cases hp; exact ⟨rfl, fun c' hc' => by rw [hc] at hc'; cases hc'; exact htk⟩⟩
          rw [htk] at TK
          cases star with
          | none =>
            have nm := gr_fail g st
            rw [show starI none = -1 from rfl]
            (repeat' (first | (apply run_qg 1; (focus rfl); (focus exact wt); (focus rfl); (focus (exact qg1))) | (apply run_qg 2; (focus rfl); (focus exact wt); (focus rfl); (focus (first | exact qg2 | exact qs2))) | (apply run_qg 3; (focus rfl); (focus exact wt); (focus rfl); (focus (first | exact qg3 | exact qs3))) | (apply run_qg 4; (focus rfl); (focus exact wt); (focus rfl); (focus (first | exact qg4 | exact qs4))) | (apply run_qg 6; (focus rfl); (focus exact wt); (focus rfl); (focus (first | exact qs6 | exact qg6 | exact q_max rfl rfl rfl | exact q_sliceData rfl rfl (by omega) | exact q_sliceDataN rfl rfl | exact q_unsafeStringN rfl rfl rfl | exact q_cap_slice rfl rfl))) | refine cod_seq ?_ | refine cod_region ?_ | refine run_nil ?_ | refine pst_then ?_ | (apply cod_cond_t; (focus rfl)) | (apply cod_cond_f; (focus rfl)) | refine cod_block ?_ | refine cod_ret ?_ | refine cod_skip ?_ | refine pst_block_ret ?_ | refine pst_then_ret ?_ | (apply cod_drawn_k; (focus kernel_rfl); (focus (simp only [List.length_cons, List.length_nil, Nat.reduceAdd]; rfl))) | (apply drnK_take 1; (focus rfl); (focus rfl); (focus exact wt); (focus (decide +kernel)); (focus exact hsq); (focus rfl); (focus (exact qg1))) | (apply drnK_take 2; (focus rfl); (focus rfl); (focus exact wt); (focus (decide +kernel)); (focus exact hsq); (focus rfl); (focus (first | exact qg2 | exact qs2))) | (apply drnK_take 3; (focus rfl); (focus rfl); (focus exact wt); (focus (decide +kernel)); (focus exact hsq); (focus rfl); (focus (first | exact qg3 | exact qs3))) | (apply drnK_take 4; (focus rfl); (focus rfl); (focus exact wt); (focus (decide +kernel)); (focus exact hsq); (focus rfl); (focus (first | exact qg4 | exact qs4))) | (apply drnK_take 6; (focus rfl); (focus rfl); (focus exact wt); (focus (decide +kernel)); (focus exact hsq); (focus rfl); (focus (first | exact qs6 | exact qg6 | exact q_max rfl rfl rfl | exact q_sliceData rfl rfl (by omega) | exact q_sliceDataN rfl rfl | exact q_unsafeStringN rfl rfl rfl | exact q_cap_slice rfl rfl))) | (apply drnK_end; (focus (decide +kernel))) | (apply drnK_ones 7; (focus rfl); (focus rfl); (focus (decide +kernel)); (focus exact wt); (focus rfl); (focus (exact opr_call_ls (by rfl) (TK ..) (by rfl) lpa)); (rintro _ _ ⟨rfl, rfl⟩; refine ⟨(by first | exact fun h => absurd h (by decide) | exact fun _ => hsq), ?_⟩)) | fail))
            exact pst_fin rfl (by exact resa) _ (⟨false, ⟨fun e => (by cases e), fun hm => absurd hm nm⟩, rfl, rfl⟩) (by exact hsa)
          | some s0 =>
            have g2 := gr_back g st
            have g1 := (g.some s0 rfl).1
            have hcast : ((s0 : Int) + 1) = ((s0 + 1 : Nat) : Int) := rfl
            have hcast2 : ((fr : Int) + 1) = ((fr + 1 : Nat) : Int) := rfl
            rw [show starI (some s0) = (s0 : Int) from rfl]
            (repeat' (first | (apply run_qg 1; (focus rfl); (focus exact wt); (focus rfl); (focus (exact qg1))) | (apply run_qg 2; (focus rfl); (focus exact wt); (focus rfl); (focus (first | exact qg2 | exact qs2))) | (apply run_qg 3; (focus rfl); (focus exact wt); (focus rfl); (focus (first | exact qg3 | exact qs3))) | (apply run_qg 4; (focus rfl); (focus exact wt); (focus rfl); (focus (first | exact qg4 | exact qs4))) | (apply run_qg 6; (focus rfl); (focus exact wt); (focus rfl); (focus (first | exact qs6 | exact qg6 | exact q_max rfl rfl rfl | exact q_sliceData rfl rfl (by omega) | exact q_sliceDataN rfl rfl | exact q_unsafeStringN rfl rfl rfl | exact q_cap_slice rfl rfl))) | refine cod_seq ?_ | refine cod_region ?_ | refine run_nil ?_ | refine pst_then ?_ | (apply cod_cond_t; (focus rfl)) | (apply cod_cond_f; (focus rfl)) | refine cod_block ?_ | refine cod_skip ?_ | refine pst_block ?_ | (apply cod_drawn_k; (focus kernel_rfl); (focus (simp only [List.length_cons, List.length_nil, Nat.reduceAdd]; rfl))) | (apply drnK_take 1; (focus rfl); (focus rfl); (focus exact wt); (focus (decide +kernel)); (focus exact hsq); (focus rfl); (focus (exact qg1))) | (apply drnK_take 2; (focus rfl); (focus rfl); (focus exact wt); (focus (decide +kernel)); (focus exact hsq); (focus rfl); (focus (first | exact qg2 | exact qs2))) | (apply drnK_take 3; (focus rfl); (focus rfl); (focus exact wt); (focus (decide +kernel)); (focus exact hsq); (focus rfl); (focus (first | exact qg3 | exact qs3))) | (apply drnK_take 4; (focus rfl); (focus rfl); (focus exact wt); (focus (decide +kernel)); (focus exact hsq); (focus rfl); (focus (first | exact qg4 | exact qs4))) | (apply drnK_take 6; (focus rfl); (focus rfl); (focus exact wt); (focus (decide +kernel)); (focus exact hsq); (focus rfl); (focus (first | exact qs6 | exact qg6 | exact q_max rfl rfl rfl | exact q_sliceData rfl rfl (by omega) | exact q_sliceDataN rfl rfl | exact q_unsafeStringN rfl rfl rfl | exact q_cap_slice rfl rfl))) | (apply drnK_end; (focus (decide +kernel))) | (apply drnK_ones 7; (focus rfl); (focus rfl); (focus (decide +kernel)); (focus exact wt); (focus rfl); (focus (exact opr_call_ls (by rfl) (TK ..) (by rfl) lpa)); (rintro _ _ ⟨rfl, rfl⟩; refine ⟨(by first | exact fun h => absurd h (by decide) | exact fun _ => hsq), ?_⟩)) | fail))
            refine pst_again ((s0 + 1, fr + 1, some s0, fr + 1)) ?_ (FSub.of (by (try dsimp only); exact fsa)) (by (try dsimp only); exact hsa) ?_
            · exact ⟨g2, Nat.le_refl _⟩
            · exact mu_back gi hkt g1.1 hfk g1.2.2
    · have hil : ps.length = i := by omega
      have st : Stuck ps t i k := ⟨hkt, fun p hp => by rw [List.getElem?_eq_none (by omega)] at hp; cases hp⟩
      cases star with
      | none =>
        have nm := gr_fail g st
        rw [show starI none = -1 from rfl]
        (repeat' (first | (apply run_qg 1; (focus rfl); (focus exact wt); (focus rfl); (focus (exact qg1))) | (apply run_qg 4; (focus rfl); (focus exact wt); (focus rfl); (focus (first | exact qg4 | exact qs4))) | (apply run_qg 6; (focus rfl); (focus exact wt); (focus rfl); (focus (first | exact qs6 | exact qg6 | exact q_max rfl rfl rfl | exact q_sliceData rfl rfl (by omega) | exact q_sliceDataN rfl rfl | exact q_unsafeStringN rfl rfl rfl | exact q_cap_slice rfl rfl))) | refine cod_seq ?_ | refine cod_region ?_ | refine run_nil ?_ | refine pst_then ?_ | (apply cod_cond_t; (focus rfl)) | (apply cod_cond_f; (focus rfl)) | refine cod_block ?_ | refine cod_ret ?_ | refine cod_skip ?_ | refine pst_block_ret ?_ | refine pst_then_ret ?_ | (apply run_offs; (focus rfl); (focus rfl); (focus rfl)) | (apply cod_drawn_k; (focus kernel_rfl); (focus (simp only [List.length_cons, List.length_nil, Nat.reduceAdd]; rfl))) | (apply drnK_take 1; (focus rfl); (focus rfl); (focus exact wt); (focus (decide +kernel)); (focus exact hsq); (focus rfl); (focus (exact qg1))) | (apply drnK_take 4; (focus rfl); (focus rfl); (focus exact wt); (focus (decide +kernel)); (focus exact hsq); (focus rfl); (focus (first | exact qg4 | exact qs4))) | (apply drnK_take 6; (focus rfl); (focus rfl); (focus exact wt); (focus (decide +kernel)); (focus exact hsq); (focus rfl); (focus (first | exact qs6 | exact qg6 | exact q_max rfl rfl rfl | exact q_sliceData rfl rfl (by omega) | exact q_sliceDataN rfl rfl | exact q_unsafeStringN rfl rfl rfl | exact q_cap_slice rfl rfl))) | (apply drnK_off; (focus rfl); (focus rfl); (focus rfl); (focus (decide +kernel)); (focus exact hsq); (focus rfl)) | (apply drnK_end; (focus (decide +kernel))) | fail))
        exact pst_fin rfl (by exact resa) _ (⟨false, ⟨fun e => (by cases e), fun hm => absurd hm nm⟩, rfl, rfl⟩) (by exact hsa)
      | some s0 =>
        have g2 := gr_back g st
        have g1 := (g.some s0 rfl).1
        rw [show starI (some s0) = (s0 : Int) from rfl]
        (repeat' (first | (apply run_qg 1; (focus rfl); (focus exact wt); (focus rfl); (focus (exact qg1))) | (apply run_qg 4; (focus rfl); (focus exact wt); (focus rfl); (focus (first | exact qg4 | exact qs4))) | (apply run_qg 6; (focus rfl); (focus exact wt); (focus rfl); (focus (first | exact qs6 | exact qg6 | exact q_max rfl rfl rfl | exact q_sliceData rfl rfl (by omega) | exact q_sliceDataN rfl rfl | exact q_unsafeStringN rfl rfl rfl | exact q_cap_slice rfl rfl))) | refine cod_seq ?_ | refine cod_region ?_ | refine run_nil ?_ | refine pst_then ?_ | (apply cod_cond_t; (focus rfl)) | (apply cod_cond_f; (focus rfl)) | refine cod_block ?_ | refine cod_skip ?_ | refine pst_block ?_ | (apply run_offs; (focus rfl); (focus rfl); (focus rfl)) | (apply cod_drawn_k; (focus kernel_rfl); (focus (simp only [List.length_cons, List.length_nil, Nat.reduceAdd]; rfl))) | (apply drnK_take 1; (focus rfl); (focus rfl); (focus exact wt); (focus (decide +kernel)); (focus exact hsq); (focus rfl); (focus (exact qg1))) | (apply drnK_take 4; (focus rfl); (focus rfl); (focus exact wt); (focus (decide +kernel)); (focus exact hsq); (focus rfl); (focus (first | exact qg4 | exact qs4))) | (apply drnK_take 6; (focus rfl); (focus rfl); (focus exact wt); (focus (decide +kernel)); (focus exact hsq); (focus rfl); (focus (first | exact qs6 | exact qg6 | exact q_max rfl rfl rfl | exact q_sliceData rfl rfl (by omega) | exact q_sliceDataN rfl rfl | exact q_unsafeStringN rfl rfl rfl | exact q_cap_slice rfl rfl))) | (apply drnK_off; (focus rfl); (focus rfl); (focus rfl); (focus (decide +kernel)); (focus exact hsq); (focus rfl)) | (apply drnK_end; (focus (decide +kernel))) | fail))
        refine pst_again ((s0 + 1, fr + 1, some s0, fr + 1)) ?_ (FSub.of (by (try dsimp only); exact fsa)) (by (try dsimp only); exact hsa) ?_
        · exact ⟨g2, Nat.le_refl _⟩
        · exact mu_back gi hkt g1.1 hfk g1.2.2
  · have hkt : k = t.length := by omega
    have ge := gr_end g hkt
    clear g
    (repeat' (first | (apply run_qg 1; (focus rfl); (focus exact wt); (focus rfl); (focus (exact qg1))) | (apply run_qg 4; (focus rfl); (focus exact wt); (focus rfl); (focus (first | exact qg4 | exact qs4))) | (apply run_qg 6; (focus rfl); (focus exact wt); (focus rfl); (focus (first | exact qs6 | exact qg6 | exact q_max rfl rfl rfl | exact q_sliceData rfl rfl (by omega) | exact q_sliceDataN rfl rfl | exact q_unsafeStringN rfl rfl rfl | exact q_cap_slice rfl rfl))) | refine cod_seq ?_ | refine cod_region ?_ | refine run_nil ?_ | refine pst_then ?_ | (apply cod_cond_f; (focus rfl)) | refine cod_block ?_ | refine cod_exit ?_ | refine pst_block_here ?_ | refine pst_then_exit ?_ | fail))
    (refine cod_loop_ro (σ := Nat) (fun x => x ≤ ps.length ∧ ((∀ p ∈ ps.drop i, p.1 = true) ↔ ∀ p ∈ ps.drop x, p.1 = true)) (fun x => [(9, .int .i64 (x : Int))]) (fun x => ps.length - x) (i) (by exact ⟨gi, Iff.rfl⟩) (by exact fsa) (fun i2 ⟨hi2, hq⟩ => ?_); dsimp only [List.cons_append, List.nil_append])
    rw [hq] at ge
    rcases get_or P i2 with ⟨pv, hpv, hiP⟩ | hgi
    · have hpi : ps[i2]? = some pv.1 := by rw [← hP, List.getElem?_map, hpv]; rfl
      have hd := dropP hpi
      rw [hd] at ge hq
      obtain ⟨⟨run, nt, sp⟩, q5, c5⟩ := pv
      cases run with
      | true =>
        have hq2 : (∀ p ∈ ps.drop i, p.1 = true) ↔ ∀ p ∈ ps.drop (i2 + 1), p.1 = true := hq.trans ⟨fun h p hp => h p (List.mem_cons_of_mem _ hp), fun h p hp => (List.mem_cons.1 hp).elim (fun e => by rw [e]) (h p)⟩
        clear hq ge
        (repeat' (first | (apply run_qg 1; (focus rfl); (focus exact wt); (focus rfl); (focus (exact qg1))) | (apply run_qg 2; (focus rfl); (focus exact wt); (focus rfl); (focus (first | exact qg2 | exact qs2))) | (apply run_qg 3; (focus rfl); (focus exact wt); (focus rfl); (focus (first | exact qg3 | exact qs3))) | (apply run_qg 4; (focus rfl); (focus exact wt); (focus rfl); (focus (first | exact qg4 | exact qs4))) | (apply run_qg 6; (focus rfl); (focus exact wt); (focus rfl); (focus (first | exact qs6 | exact qg6 | exact q_max rfl rfl rfl | exact q_sliceData rfl rfl (by omega) | exact q_sliceDataN rfl rfl | exact q_unsafeStringN rfl rfl rfl | exact q_cap_slice rfl rfl))) | refine cod_seq ?_ | refine cod_region ?_ | refine run_nil ?_ | refine pst_then ?_ | (apply cod_cond_t; (focus rfl)) | refine cod_block ?_ | refine cod_skip ?_ | refine pst_block ?_ | fail))
        refine pst_again (i2 + 1) ?_ (FSub.of (by (try dsimp only); exact fsa)) (by (try dsimp only); exact hsa) ?_
        · exact ⟨by omega, hq2⟩
        · show ps.length - (i2 + 1) < ps.length - i2
          omega
      | false =>
        clear hq
        (repeat' (first | (apply run_qg 1; (focus rfl); (focus exact wt); (focus rfl); (focus (exact qg1))) | (apply run_qg 2; (focus rfl); (focus exact wt); (focus rfl); (focus (first | exact qg2 | exact qs2))) | (apply run_qg 3; (focus rfl); (focus exact wt); (focus rfl); (focus (first | exact qg3 | exact qs3))) | (apply run_qg 4; (focus rfl); (focus exact wt); (focus rfl); (focus (first | exact qg4 | exact qs4))) | (apply run_qg 6; (focus rfl); (focus exact wt); (focus rfl); (focus (first | exact qs6 | exact qg6 | exact q_max rfl rfl rfl | exact q_sliceData rfl rfl (by omega) | exact q_sliceDataN rfl rfl | exact q_unsafeStringN rfl rfl rfl | exact q_cap_slice rfl rfl))) | refine cod_seq ?_ | refine cod_region ?_ | refine run_nil ?_ | refine pst_then ?_ | (apply cod_cond_f; (focus rfl)) | refine cod_exit ?_ | refine cod_ret ?_ | refine pst_block_here ?_ | refine pst_then_exit ?_ | fail))
        exact pst_fin rfl (by exact resa) _ (⟨false, ⟨fun e => (by cases e), fun hm => absurd (ge.1 hm (false, nt, sp) List.mem_cons_self) Bool.false_ne_true⟩, rfl, rfl⟩) (by exact hsa)
    · have hil : i2 = P.length := by omega
      rw [List.drop_of_length_le (by omega)] at ge
      clear hq
      (repeat' (first | (apply run_qg 1; (focus rfl); (focus exact wt); (focus rfl); (focus (exact qg1))) | (apply run_qg 4; (focus rfl); (focus exact wt); (focus rfl); (focus (first | exact qg4 | exact qs4))) | (apply run_qg 6; (focus rfl); (focus exact wt); (focus rfl); (focus (first | exact qs6 | exact qg6 | exact q_max rfl rfl rfl | exact q_sliceData rfl rfl (by omega) | exact q_sliceDataN rfl rfl | exact q_unsafeStringN rfl rfl rfl | exact q_cap_slice rfl rfl))) | refine cod_seq ?_ | refine cod_region ?_ | refine run_nil ?_ | refine pst_then ?_ | (apply cod_cond_f; (focus rfl)) | refine cod_exit ?_ | refine cod_ret ?_ | refine pst_block_here ?_ | refine pst_then_exit ?_ | (apply run_offs; (focus rfl); (focus rfl); (focus rfl)) | fail))
      exact pst_fin rfl (by exact resa) _ (⟨true, ⟨fun _ => ge.2 (fun p hp => absurd hp List.not_mem_nil), fun _ => rfl⟩, rfl, rfl⟩) (by exact hsa)
/-- Match -/
theorem match_any {W : World} (hT : TabsIn W) (p s : List UInt8) (hp : p.length ≤ 140737488351232) (hs : s.length ≤ 140737488351232) :
    Ct Tryd.prog 6 [.string (str p), .string (str s)] [old W] (MatchR p s) := by
  by_cases h : 40 < p.length ∨ 40 < s.length
  · exact spec_mono (match_far p s hp hs h) fun v H' h' => .inl ⟨h, h'⟩
  · cases hn : partsS (sigs p) with
    | none => exact spec_mono (match_none hT p s h hn) fun v H' h' => .inr (.inl ⟨h, hn, h'⟩)
    | some ps => exact spec_mono (match_some hT p s h hn) fun v H' ⟨b, h1, h2, h3⟩ => .inr (.inr ⟨h, ps, b, hn, h1, h2, h3⟩)
end Go.Proofs.YtcbpeampjhegcaaDoor.glob
