/-
  UseSum: the walk.
-/
import Derived.Test.YtkkgmgffkjeklaaCount
import Derived.Test.YtkkgmgffkjeklaaOpen2
namespace Go.Proofs.Ytkkgmgffkjeklaa.lawUseSum
open Go.RowKit kit sl Go.Proofs.Ytkkgmgffkjeklaa.disk Go.Proofs.Ytkkgmgffkjeklaa.blob Go.Proofs.Ytkkgmgffkjeklaa.inode Go.Proofs.Ytkkgmgffkjeklaa.imap Go.Proofs.Ytkkgmgffkjeklaa.use
set_option linter.unusedVariables false
def sumTo (F : Nat → Nat) : Nat → Nat
  | 0 => 0
  | n + 1 => sumTo F n + F n
theorem sumTo_same {F G : Nat → Nat} : ∀ n, (∀ j, j < n → F j = G j) → sumTo F n = sumTo G n := by
  intro n
  induction n with
  | zero => intro _; rfl
  | succ n ih => intro h; rw [sumTo, sumTo, ih fun j hj => h j (by omega), h n (by omega)]
theorem sumTo_upd (F : Nat → Nat) (i v : Nat) : ∀ n, i < n → sumTo (upd1 F i (F i + v)) n = sumTo F n + v := by
  intro n
  induction n with
  | zero => intro h; omega
  | succ n ih =>
    intro h
    rw [sumTo, sumTo]
    by_cases e : i = n
    · subst e
      rw [upd1_at, sumTo_same (F := upd1 F i (F i + v)) (G := F) i fun j hj => upd1_ne _ _ (by omega)]
      omega
    · rw [upd1_ne _ _ (fun h => e h.symm), ih (by omega)]
      omega
theorem sum_all : ∀ (L : List use.Item) (F : Nat → Nat) (N : Nat), (∀ x ∈ L, 0 ≤ x.1 ∧ x.1 < (N : Int)) → sumTo (addAll F L) N = sumTo F N + tot L := by
  intro L
  induction L with
  | nil => intro F N _; rfl
  | cons x L ih =>
    intro F N h
    have hx := h x List.mem_cons_self
    rw [addAll, tot, ih _ N fun y hy => h y (List.mem_cons_of_mem _ hy), sumTo_upd F _ _ N (by omega)]
    omega
theorem sumTo_mono (F : Nat → Nat) {j n : Nat} (h : j ≤ n) : sumTo F j ≤ sumTo F n := by
  induction n with
  | zero => have : j = 0 := by omega
            subst this; exact Nat.le_refl _
  | succ n ih =>
    rw [sumTo]
    rcases (by omega : j = n + 1 ∨ j ≤ n) with e | e
    · subst e; exact Nat.le_refl _
    · have := ih e; omega
theorem sumTo_zero : ∀ n, sumTo (fun _ => 0) n = 0 := by
  intro n
  induction n with
  | zero => rfl
  | succ n ih => rw [sumTo, ih]
theorem parts_tot {cs : use.Cells} {ps : Waits} {n : Int} : ∀ (t : List (Int × Int)) (k : Nat) (L : List use.Item), partIts cs ps n t k = some L → tot L ≤ 600 * t.length := by
  intro t
  induction t with
  | nil => intro k L h; rw [partIts] at h; cases h; exact Nat.zero_le _
  | cons p t ih =>
    intro k L h
    rw [partIts] at h
    rw [List.length_cons]
    split at h
    · have := ih _ L h; omega
    · split at h
      · obtain ⟨L2, e1, e2⟩ := Option.map_eq_some_iff.1 h
        subst e2
        have := ih _ L2 e1
        have h9 := part_text cs ps n (k : Int) p
        rw [tot]
        dsimp only
        omega
      · cases h
theorem itsOf_tot {cs : use.Cells} {ps : Waits} {p : Int × Int} {g : Int} {n : Nat} {L : List use.Item} (h : itsOf cs ps p g n = some L) : tot L ≤ 400000 := by
  unfold itsOf at h
  split at h
  · cases h; exact Nat.zero_le _
  · split at h
    · cases h
    · rename_i l hl
      obtain ⟨L2, e1, e2⟩ := Option.map_eq_some_iff.1 h
      subst e2
      have h1 := parts_tot _ _ L2 e1
      have h2 := (ino_text hl).2.2.2.2.2.2
      have h3 : (pI l).length ≤ 600 := prs_len 600 _ (by rw [List.length_drop]; omega)
      rw [tot]
      dsimp only
      omega
theorem its_tot {cs : use.Cells} {ps : Waits} : ∀ (at' : List (Int × Int)) (gens : List Int) (n : Nat) (L : List use.Item), its cs ps at' gens n = some L → tot L ≤ 400000 * at'.length := by
  intro at'
  induction at' with
  | nil => intro gens n L h; rw [its_nil] at h; cases h; exact Nat.zero_le _
  | cons p at' ih =>
    intro gens n L h
    rw [List.length_cons]
    cases gens with
    | nil => rw [its_nil2] at h; cases h; exact Nat.zero_le _
    | cons g gens =>
      rw [its] at h
      split at h
      · cases h
      · rename_i a ha
        obtain ⟨L2, e1, e2⟩ := Option.map_eq_some_iff.1 h
        subst e2
        have := itsOf_tot ha
        have := ih _ _ L2 e1
        rw [tot_app]; omega
theorem none3 : blobF [⟨#[]⟩, ⟨#[]⟩, ⟨#[]⟩] [] (2, 0) = (zBl, 18) := by decide +kernel
theorem good3 : disk.Good [⟨#[]⟩, ⟨#[]⟩, ⟨#[]⟩] [] := good_of (by decide +kernel)
theorem cnt_some {a w qa qg : Option Addr} {ca cw ca2 cg : Nat} {cs : use.Cells} {ps : Waits} {at' : List (Int × Int)} {gens : List Int} (hc : cs.length ≤ maxLen) (hp : ps.length ≤ maxLen) (hw : WfM at' gens) {L : List use.Item} (h : CntOk cs ps at' gens L) :
    Ct Try.prog 24 [.agg #[.slice a cs.length ca, .slice w ps.length cw], .agg #[.slice qa at'.length ca2, .slice qg gens.length cg]] [sl 1 (.slice a cs.length ca) (cs.map fS), sl 2 (.slice w ps.length cw) (ps.map fP), sl 2 (.slice qa at'.length ca2) (at'.map fII), sl 1 (.slice qg gens.length cg) (gens.map fI)]
      fun v H' => ∃ q, v = .tuple #[.slice q cs.length cs.length, .int .i64 0] ∧ H' = [own (.slice q cs.length cs.length) 3 1 cs.length (flat fI (rowN cs.length (addAll (fun _ => 0) L)))] :=
  ct_mono (count_any a w qa qg ca cw ca2 cg cs ps at' gens hc hp hw) fun v H' h2 => by
    rcases h2 with ⟨L', q, e, h3, h4⟩ | ⟨e, _⟩
    · have : L' = L := by have h8 := e.2.2; rw [h.2.2] at h8; exact (Option.some.inj h8).symm
      subst this
      exact ⟨q, h3, h4⟩
    · exact absurd ⟨L, h⟩ e
theorem cnt_none {a w qa qg : Option Addr} {ca cw ca2 cg : Nat} {cs : use.Cells} {ps : Waits} {at' : List (Int × Int)} {gens : List Int} (hc : cs.length ≤ maxLen) (hp : ps.length ≤ maxLen) (hw : WfM at' gens) (h : ¬ ∃ L, CntOk cs ps at' gens L) :
    Ct Try.prog 24 [.agg #[.slice a cs.length ca, .slice w ps.length cw], .agg #[.slice qa at'.length ca2, .slice qg gens.length cg]] [sl 1 (.slice a cs.length ca) (cs.map fS), sl 2 (.slice w ps.length cw) (ps.map fP), sl 2 (.slice qa at'.length ca2) (at'.map fII), sl 1 (.slice qg gens.length cg) (gens.map fI)]
      fun v H' => ∃ e : Int, e ≠ 0 ∧ v = .tuple #[.slice none 0 0, .int .i64 e] ∧ H' = [] :=
  ct_mono (count_any a w qa qg ca cw ca2 cg cs ps at' gens hc hp hw) fun v H' h2 => by
    rcases h2 with ⟨L', q, e, _⟩ | ⟨_, h3⟩
    · exact absurd ⟨L', e⟩ h
    · exact h3
attribute [local irreducible] box own sl old bptr eptr Qt Opr Run Cod Pst Drn
set_option maxRecDepth 100000 in
set_option maxHeartbeats 8000000 in
theorem law_any (a w qa qg : Option Addr) (ca cw ca2 cg : Nat) (cs : use.Cells) (ps : Waits) (at' : List (Int × Int)) (gens : List Int) (hc : cs.length ≤ maxLen) (hp : ps.length ≤ maxLen) (hw : WfM at' gens) :
    Ct Try.prog 7 [.agg #[.slice a cs.length ca, .slice w ps.length cw], .agg #[.slice qa at'.length ca2, .slice qg gens.length cg]] [sl 1 (.slice a cs.length ca) (cs.map fS), sl 2 (.slice w ps.length cw) (ps.map fP), sl 2 (.slice qa at'.length ca2) (at'.map fII), sl 1 (.slice qg gens.length cg) (gens.map fI)] fun v H' => v = .bool true ∧ H' = [] := by
  have A3 := fun q c => at_any q none c 0 [⟨#[]⟩, ⟨#[]⟩, ⟨#[]⟩] [] (2, 0) good3
  rw [none3] at A3
  unfold zBl at A3
  dsimp only at A3
  by_cases hcnt : ∃ L, CntOk cs ps at' gens L
  · obtain ⟨L, hL⟩ := hcnt
    have K0 := cnt_some (a := a) (w := w) (qa := qa) (qg := qg) (ca := ca) (cw := cw) (ca2 := ca2) (cg := cg) hc hp hw hL
    obtain ⟨hgd, hm, hits⟩ := hL
    obtain ⟨ha48, hg48, _⟩ := id hm
    have hn1 := hgd.n1
    have hin := its_in _ _ _ L hits
    have hsum := sum_all L (fun _ => 0) cs.length hin
    have htot := its_tot _ _ _ L hits
    rw [ha48] at htot
    rw [sumTo_zero, Nat.zero_add] at hsum
    have hmono := fun j (h : j ≤ cs.length) => sumTo_mono (addAll (fun _ => 0) L) h
    have AT := fun p => at_any a w ca cw cs ps p hgd
    obtain ⟨F, hF⟩ : ∃ F, addAll (fun _ => 0) L = F := ⟨_, rfl⟩
    rw [hF] at K0 hsum hmono
    clear hin hF
    (refine spec_enter Try.func7 Try.ntmps7 rfl rfl fun Fr => ?_; dsimp only [List.cons_append, List.nil_append, ini, Nat.reduceAdd])
    (repeat' (first | (apply run_qg 1; (focus rfl); (focus exact wt); (focus rfl); (focus (exact qg1))) | (apply run_qg 2; (focus rfl); (focus exact wt); (focus rfl); (focus (first | exact qg2 | exact qs2))) | (apply run_qg 4; (focus rfl); (focus exact wt); (focus rfl); (focus (first | exact qg4 | exact qs4))) | (apply run_qg 5; (focus rfl); (focus exact wt); (focus rfl); (focus (exact qg5))) | refine cod_seq ?_ | refine cod_region ?_ | refine run_nil ?_ | refine pst_then ?_ | (apply cod_cond_f; (focus rfl)) | refine cod_skip ?_ | (apply run_osg 8; (focus rfl); (focus exact wt); (focus rfl); (focus (exact opr_box_agg rfl rfl)); (rintro _ _ ⟨b, rfl, rfl⟩)) | (apply run_osg 8; (focus rfl); (focus exact wt); (focus rfl); (focus (exact opr_new rfl)); (rintro _ _ ⟨b, rfl, rfl⟩)) | (apply run_ong 9; (focus rfl); (focus exact wt); (focus (exact opr_store_box_agg rfl rfl rfl (by exact pka) rfl rfl rfl (by exact spla))); (rintro _ _ ⟨rfl, rfl⟩)) | (apply run_osg 10; (focus rfl); (focus exact wt); (focus rfl); (focus (exact opr_buildSlice rfl rfl rfl (by exact blda) rfl rfl (by decide) rfl)); (rintro _ _ ⟨q, rfl, rfl⟩)) | (apply run_osg 7; (focus rfl); (focus exact wt); (focus rfl); (focus (exact opr_call_ls (by rfl) (A3 ..) (by rfl) lpa)); (rintro _ _ ⟨rfl, rfl⟩))))
    (refine run_os wt rfl (opr_call_l rfl (K0) rfl (by exact lpa)) ?_; rintro _ _ ⟨_, ⟨q1, rfl, rfl⟩, rfl⟩; dsimp only [List.cons_append, List.nil_append])
    (repeat' (first | (apply run_qg 1; (focus rfl); (focus exact wt); (focus rfl); (focus (exact qg1))) | (apply run_qg 4; (focus rfl); (focus exact wt); (focus rfl); (focus (first | exact qg4 | exact qs4))) | (apply run_qg 6; (focus rfl); (focus exact wt); (focus rfl); (focus (first | exact qs6 | exact qg6 | exact q_max rfl rfl rfl | exact q_sliceData rfl rfl (by omega) | exact q_sliceDataN rfl rfl | exact q_unsafeStringN rfl rfl rfl | exact q_cap_slice rfl rfl))) | refine cod_seq ?_ | refine cod_region ?_ | refine run_nil ?_ | refine pst_then ?_ | (apply cod_cond_f; (focus rfl)) | refine cod_block ?_ | refine cod_skip ?_))
    (refine cod_loop_ro (σ := Nat) (fun j => j ≤ cs.length) (fun j => [(44, .int .i64 (j : Int)), (9, .int .i64 ((sumTo F j : Nat) : Int))]) (fun j => cs.length - j) (0) (by exact Nat.zero_le _) (by exact fsa) (fun j hj => ?_); dsimp only [List.cons_append, List.nil_append])
    rcases Nat.lt_or_ge j cs.length with hlt | hge
    · have gR : (rowN cs.length F)[j]? = some ((F j : Nat) : Int) := rowN_at _ hlt
      have hb := hmono (j + 1) hlt
      have hs : ((sumTo F j : Nat) : Int) + ((F j : Nat) : Int) = ((sumTo F (j + 1) : Nat) : Int) := by rw [sumTo]; omega
      rw [sumTo] at hb
      (repeat' (first | (apply run_qg 1; (focus rfl); (focus exact wt); (focus rfl); (focus (exact qg1))) | (apply run_qg 2; (focus rfl); (focus exact wt); (focus rfl); (focus (first | exact qg2 | exact qs2))) | (apply run_qg 3; (focus rfl); (focus exact wt); (focus rfl); (focus (first | exact qg3 | exact qs3))) | (apply run_qg 4; (focus rfl); (focus exact wt); (focus rfl); (focus (first | exact qg4 | exact qs4))) | refine cod_seq ?_ | refine cod_region ?_ | refine run_nil ?_ | refine pst_then ?_ | (apply cod_cond_t; (focus rfl)) | refine cod_block ?_ | refine cod_skip ?_ | refine pst_block ?_))
      rw [hs]
      refine pst_again (j + 1) ?_ (FSub.of (by (try dsimp only); exact fsa)) (by (try dsimp only); exact hsa) ?_
      · omega
      · omega
    · have hjl : j = cs.length := by omega
      subst hjl
      rw [hsum]
      (repeat' (first | (apply run_qg 1; (focus rfl); (focus exact wt); (focus rfl); (focus (exact qg1))) | (apply run_qg 2; (focus rfl); (focus exact wt); (focus rfl); (focus (first | exact qg2 | exact qs2))) | (apply run_qg 3; (focus rfl); (focus exact wt); (focus rfl); (focus (first | exact qg3 | exact qs3))) | (apply run_qg 4; (focus rfl); (focus exact wt); (focus rfl); (focus (first | exact qg4 | exact qs4))) | (apply run_qg 6; (focus rfl); (focus exact wt); (focus rfl); (focus (first | exact qs6 | exact qg6 | exact q_max rfl rfl rfl | exact q_sliceData rfl rfl (by omega) | exact q_sliceDataN rfl rfl | exact q_unsafeStringN rfl rfl rfl | exact q_cap_slice rfl rfl))) | refine cod_seq ?_ | refine cod_region ?_ | refine run_nil ?_ | refine pst_then ?_ | (apply cod_cond_f; (focus rfl)) | refine cod_block ?_ | refine cod_exit ?_ | refine pst_block_here ?_ | refine pst_then_exit ?_))
      (refine cod_loop_ro (σ := Nat × List use.Item) (fun x => (x.1 ≤ 48 ∧ tot x.2 ≤ 20000000) ∧ its cs ps (at'.drop x.1) (gens.drop x.1) x.1 = some x.2) (fun x => [(55, .int .i64 (x.1 : Int)), (9, .int .i64 ((tot x.2 : Nat) : Int))]) (fun x => 48 - x.1) ((0, L)) (by exact ⟨⟨Nat.zero_le _, by show tot L ≤ 20000000; omega⟩, hits⟩) (by exact fsa) (fun ⟨i, Lr⟩ ⟨⟨hi, hLb⟩, hr⟩ => ?_); dsimp only [List.cons_append, List.nil_append])
      dsimp only at hi hLb hr ⊢
      rcases Nat.lt_or_ge i 48 with hlt2 | hge2
      · obtain ⟨⟨px, py⟩, hpi⟩ : ∃ p, at'[i]? = some p := ⟨_, List.getElem?_eq_getElem (by omega)⟩
        obtain ⟨g, hgi⟩ : ∃ g, gens[i]? = some g := ⟨_, List.getElem?_eq_getElem (by omega)⟩
        rw [its_step hpi hgi] at hr
        unfold itsOf at hr
        by_cases hp0 : px = 0
        · subst hp0
          rw [if_pos rfl] at hr
          dsimp only at hr
          rw [← map_nil] at hr
          (repeat' (first | (apply run_qg 1; (focus rfl); (focus exact wt); (focus rfl); (focus (exact qg1))) | (apply run_qg 2; (focus rfl); (focus exact wt); (focus rfl); (focus (first | exact qg2 | exact qs2))) | (apply run_qg 3; (focus rfl); (focus exact wt); (focus rfl); (focus (first | exact qg3 | exact qs3))) | (apply run_qg 4; (focus rfl); (focus exact wt); (focus rfl); (focus (first | exact qg4 | exact qs4))) | refine cod_seq ?_ | refine cod_region ?_ | refine run_nil ?_ | refine pst_then ?_ | (apply cod_cond_t; (focus rfl)) | refine cod_block ?_ | refine cod_exit ?_ | refine cod_skip ?_ | refine pst_block_here ?_ | refine pst_then_exit ?_ | (apply run_osg 8; (focus rfl); (focus exact wt); (focus rfl); (focus (exact opr_new rfl)); (rintro _ _ ⟨b, rfl, rfl⟩)) | (apply run_ong 9; (focus rfl); (focus exact wt); (focus (exact opr_store_box_agg rfl rfl rfl (by exact pka) rfl rfl rfl (by exact spla))); (rintro _ _ ⟨rfl, rfl⟩))))
          refine pst_again ((i + 1, Lr)) ?_ (FSub.of (by (try dsimp only); exact fsa)) (by (try dsimp only); exact hsa) ?_
          · exact ⟨⟨by dsimp only; omega, hLb⟩, hr⟩
          · dsimp only; omega
        · rw [if_neg hp0] at hr
          cases hino : inoF cs ps (px, py) g (i : Int) with
          | none => rw [hino] at hr; cases hr
          | some l =>
            rw [hino] at hr
            dsimp only at hr
            cases hpt : partIts cs ps (i : Int) (pI l) 0 with
            | none => rw [hpt] at hr; cases hr
            | some Lq =>
              rw [hpt] at hr
              simp only [Option.map_some] at hr
              obtain ⟨L', hr1, hr2⟩ := Option.map_eq_some_iff.1 hr
              obtain ⟨t1, t2, t3, t4, t5, t6, t7⟩ := ino_text hino
              have A0 := AT (px, py)
              rw [t1, t2, t3, t6] at A0
              have R0 := read_good (by omega) t4
              rw [t5] at R0
              have hpl : (pI l).length ≤ 600 := prs_len 600 _ (by rw [List.length_drop]; omega)
              have hokp := goodI_parts t4
              have htr : tot Lr = l.length + (tot Lq + tot L') := by
                rw [← hr2, List.cons_append, tot, tot_app]
              have hs2 : ((tot Lr : Nat) : Int) - (l.length : Int) = ((tot Lq + tot L' : Nat) : Int) := by omega
              generalize (blobF cs ps (px, py)).1.2.2.1 = bn at *
              clear hr hino t1 t2 t3 t6
              (repeat' (first | (apply run_qg 1; (focus rfl); (focus exact wt); (focus rfl); (focus (exact qg1))) | (apply run_qg 2; (focus rfl); (focus exact wt); (focus rfl); (focus (first | exact qg2 | exact qs2))) | (apply run_qg 3; (focus rfl); (focus exact wt); (focus rfl); (focus (first | exact qg3 | exact qs3))) | (apply run_qg 4; (focus rfl); (focus exact wt); (focus rfl); (focus (first | exact qg4 | exact qs4))) | refine cod_seq ?_ | refine cod_region ?_ | refine run_nil ?_ | refine pst_then ?_ | (apply cod_cond_t; (focus rfl)) | (apply cod_cond_f; (focus rfl)) | refine cod_block ?_ | refine cod_skip ?_ | (apply run_osg 8; (focus rfl); (focus exact wt); (focus rfl); (focus (exact opr_new rfl)); (rintro _ _ ⟨b, rfl, rfl⟩)) | (apply run_ong 9; (focus rfl); (focus exact wt); (focus (exact opr_store_box_agg rfl rfl rfl (by exact pka) rfl rfl rfl (by exact spla))); (rintro _ _ ⟨rfl, rfl⟩)) | (apply run_osg 7; (focus rfl); (focus exact wt); (focus rfl); (focus (exact opr_call_ls (by rfl) (A0 ..) (by rfl) lpa)); (rintro _ _ ⟨rfl, rfl⟩))))
              (refine run_os wt rfl (opr_call_l rfl (R0) rfl (by exact lpa)) ?_; rintro _ _ ⟨_, ⟨q9, c9, rfl, rfl⟩, rfl⟩; dsimp only [List.cons_append, List.nil_append])
              (repeat' (first | (apply run_qg 1; (focus rfl); (focus exact wt); (focus rfl); (focus (exact qg1))) | (apply run_qg 2; (focus rfl); (focus exact wt); (focus rfl); (focus (first | exact qg2 | exact qs2))) | (apply run_qg 3; (focus rfl); (focus exact wt); (focus rfl); (focus (first | exact qg3 | exact qs3))) | (apply run_qg 4; (focus rfl); (focus exact wt); (focus rfl); (focus (first | exact qg4 | exact qs4))) | (apply run_qg 6; (focus rfl); (focus exact wt); (focus rfl); (focus (first | exact qs6 | exact qg6 | exact q_max rfl rfl rfl | exact q_sliceData rfl rfl (by omega) | exact q_sliceDataN rfl rfl | exact q_unsafeStringN rfl rfl rfl | exact q_cap_slice rfl rfl))) | refine cod_seq ?_ | refine cod_region ?_ | refine run_nil ?_ | refine pst_then ?_ | (apply cod_cond_f; (focus rfl)) | refine cod_block ?_ | refine cod_skip ?_ | (apply run_osg 8; (focus rfl); (focus exact wt); (focus rfl); (focus (exact opr_new rfl)); (rintro _ _ ⟨b, rfl, rfl⟩)) | (apply run_ong 9; (focus rfl); (focus exact wt); (focus (exact opr_store_box_agg rfl rfl rfl (by exact pka) rfl rfl rfl (by exact spla))); (rintro _ _ ⟨rfl, rfl⟩)) | (apply cod_drawn_k; (focus kernel_rfl); (focus (simp only [List.length_cons, List.length_nil, Nat.reduceAdd]; rfl))) | (apply drnK_take 1; (focus rfl); (focus rfl); (focus exact wt); (focus (decide +kernel)); (focus exact hsq); (focus rfl); (focus (exact qg1))) | (apply drnK_take 2; (focus rfl); (focus rfl); (focus exact wt); (focus (decide +kernel)); (focus exact hsq); (focus rfl); (focus (first | exact qg2 | exact qs2))) | (apply drnK_take 3; (focus rfl); (focus rfl); (focus exact wt); (focus (decide +kernel)); (focus exact hsq); (focus rfl); (focus (first | exact qg3 | exact qs3))) | (apply drnK_take 4; (focus rfl); (focus rfl); (focus exact wt); (focus (decide +kernel)); (focus exact hsq); (focus rfl); (focus (first | exact qg4 | exact qs4))) | (apply drnK_end; (focus (decide +kernel)))))
              rw [hs2]
              (refine cod_loop_ro (σ := Nat × List use.Item) (fun x => (x.1 ≤ (pI l).length ∧ tot x.2 ≤ tot Lq) ∧ partIts cs ps (i : Int) ((pI l).drop x.1) x.1 = some x.2) (fun x => [(99, .int .i64 (x.1 : Int)), (9, .int .i64 ((tot x.2 + tot L' : Nat) : Int))]) (fun x => (pI l).length - x.1) ((0, Lq)) (by exact ⟨⟨Nat.zero_le _, Nat.le_refl _⟩, hpt⟩) (by exact fsa) (fun ⟨k, Lk⟩ ⟨⟨hk, hkb⟩, hkr⟩ => ?_); dsimp only [List.cons_append, List.nil_append])
              dsimp only at hk hkb hkr ⊢
              rcases Nat.lt_or_ge k (pI l).length with hltk | hgek
              · obtain ⟨⟨ux, uy⟩, hu⟩ : ∃ p, (pI l)[k]? = some p := ⟨_, List.getElem?_eq_getElem hltk⟩
                have huo := hokp _ (List.mem_of_getElem? hu)
                rw [parts_step hu] at hkr
                have hux : 0 ≤ ux := huo.1
                by_cases hu0 : ux = 0
                · subst hu0
                  rw [if_pos rfl] at hkr
                  (repeat' (first | (apply run_qg 1; (focus rfl); (focus exact wt); (focus rfl); (focus (exact qg1))) | (apply run_qg 2; (focus rfl); (focus exact wt); (focus rfl); (focus (first | exact qg2 | exact qs2))) | (apply run_qg 3; (focus rfl); (focus exact wt); (focus rfl); (focus (first | exact qg3 | exact qs3))) | (apply run_qg 4; (focus rfl); (focus exact wt); (focus rfl); (focus (first | exact qg4 | exact qs4))) | refine cod_seq ?_ | refine cod_region ?_ | refine run_nil ?_ | refine pst_then ?_ | (apply cod_cond_t; (focus rfl)) | (apply cod_cond_f; (focus rfl)) | refine cod_block ?_ | refine cod_skip ?_ | refine pst_block ?_ | (apply run_osg 8; (focus rfl); (focus exact wt); (focus rfl); (focus (exact opr_new rfl)); (rintro _ _ ⟨b, rfl, rfl⟩)) | (apply run_ong 9; (focus rfl); (focus exact wt); (focus (exact opr_store_box_agg rfl rfl rfl (by exact pka) rfl rfl rfl (by exact spla))); (rintro _ _ ⟨rfl, rfl⟩))))
                  refine pst_again ((k + 1, Lk)) ?_ (FSub.of (by (try dsimp only); exact fsa)) (by (try dsimp only); exact hsa) ?_
                  · exact ⟨⟨by dsimp only; omega, hkb⟩, hkr⟩
                  · dsimp only; omega
                · rw [if_neg hu0] at hkr
                  by_cases hok : (partF cs ps (i : Int) (k : Int) (ux, uy)).2 = 0
                  · rw [if_pos hok] at hkr
                    obtain ⟨Lk2, e1, e2⟩ := Option.map_eq_some_iff.1 hkr
                    obtain ⟨s1, s2, s3, s4, s5⟩ := part_ok hok
                    have B0 := AT (ux, uy)
                    have hbt := blob_text cs ps (ux, uy)
                    rw [s1, s2, s3, s4] at B0
                    rw [s5] at e2
                    generalize (blobF cs ps (ux, uy)).1.2.2.2 = bt at *
                    have htk : tot Lk = bt.length + tot Lk2 := by rw [← e2, tot]
                    have hs3 : ((tot Lk + tot L' : Nat) : Int) - (bt.length : Int) = ((tot Lk2 + tot L' : Nat) : Int) := by omega
                    clear hkr s1 s2 s3 s4 s5 hok
                    (repeat' (first | (apply run_qg 1; (focus rfl); (focus exact wt); (focus rfl); (focus (exact qg1))) | (apply run_qg 2; (focus rfl); (focus exact wt); (focus rfl); (focus (first | exact qg2 | exact qs2))) | (apply run_qg 3; (focus rfl); (focus exact wt); (focus rfl); (focus (first | exact qg3 | exact qs3))) | (apply run_qg 4; (focus rfl); (focus exact wt); (focus rfl); (focus (first | exact qg4 | exact qs4))) | (apply run_qg 6; (focus rfl); (focus exact wt); (focus rfl); (focus (first | exact qs6 | exact qg6 | exact q_max rfl rfl rfl | exact q_sliceData rfl rfl (by omega) | exact q_sliceDataN rfl rfl | exact q_unsafeStringN rfl rfl rfl | exact q_cap_slice rfl rfl))) | refine cod_seq ?_ | refine cod_region ?_ | refine run_nil ?_ | refine pst_then ?_ | (apply cod_cond_t; (focus rfl)) | (apply cod_cond_f; (focus rfl)) | refine cod_block ?_ | refine cod_skip ?_ | refine pst_block ?_ | (apply run_osg 8; (focus rfl); (focus exact wt); (focus rfl); (focus (exact opr_new rfl)); (rintro _ _ ⟨b, rfl, rfl⟩)) | (apply run_ong 9; (focus rfl); (focus exact wt); (focus (exact opr_store_box_agg rfl rfl rfl (by exact pka) rfl rfl rfl (by exact spla))); (rintro _ _ ⟨rfl, rfl⟩)) | (apply run_osg 7; (focus rfl); (focus exact wt); (focus rfl); (focus (exact opr_call_ls (by rfl) (B0 ..) (by rfl) lpa)); (rintro _ _ ⟨rfl, rfl⟩))))
                    rw [hs3]
                    refine pst_again ((k + 1, Lk2)) ?_ (FSub.of (by (try dsimp only); exact fsa)) (by (try dsimp only); exact hsa) ?_
                    · exact ⟨⟨by dsimp only; omega, by dsimp only; omega⟩, e1⟩
                    · dsimp only; omega
                  · rw [if_neg hok] at hkr
                    cases hkr
              · have hkl : k = (pI l).length := by omega
                subst hkl
                rw [List.drop_length, partIts] at hkr
                cases hkr
                have hs4 : ((tot [] + tot L' : Nat) : Int) = ((tot L' : Nat) : Int) := by rw [tot, Nat.zero_add]
                rw [hs4]
                (repeat' (first | (apply run_qg 1; (focus rfl); (focus exact wt); (focus rfl); (focus (exact qg1))) | (apply run_qg 4; (focus rfl); (focus exact wt); (focus rfl); (focus (first | exact qg4 | exact qs4))) | refine cod_seq ?_ | refine cod_region ?_ | refine run_nil ?_ | refine pst_then ?_ | (apply cod_cond_f; (focus rfl)) | refine cod_exit ?_ | refine pst_block_here ?_ | refine pst_then_exit ?_ | refine pst_block ?_))
                refine pst_again ((i + 1, L')) ?_ (FSub.of (by (try dsimp only); exact fsa)) (by (try dsimp only); exact hsa) ?_
                · exact ⟨⟨by dsimp only; omega, by dsimp only; omega⟩, hr1⟩
                · dsimp only; omega
      · have hi48 : i = 48 := by omega
        subst hi48
        have e1 : at'.drop 48 = [] := List.drop_eq_nil_of_le (by omega)
        rw [e1, its_nil] at hr
        cases hr
        have h0 : tot [] = 0 := rfl
        (repeat' (first | (apply run_qg 1; (focus rfl); (focus exact wt); (focus rfl); (focus (exact qg1))) | (apply run_qg 4; (focus rfl); (focus exact wt); (focus rfl); (focus (first | exact qg4 | exact qs4))) | refine cod_seq ?_ | refine cod_region ?_ | refine run_nil ?_ | refine pst_then ?_ | (apply cod_cond_f; (focus rfl)) | refine cod_exit ?_ | refine cod_ret ?_ | refine pst_block_here ?_ | refine pst_then_exit ?_))
        exact pst_fin rfl (by exact resa) _ (⟨rfl, rfl⟩) (by exact hsa)
  · have K0 := cnt_none (a := a) (w := w) (qa := qa) (qg := qg) (ca := ca) (cw := cw) (ca2 := ca2) (cg := cg) hc hp hw hcnt
    (refine spec_enter Try.func7 Try.ntmps7 rfl rfl fun Fr => ?_; dsimp only [List.cons_append, List.nil_append, ini, Nat.reduceAdd])
    (repeat' (first | (apply run_qg 1; (focus rfl); (focus exact wt); (focus rfl); (focus (exact qg1))) | (apply run_qg 2; (focus rfl); (focus exact wt); (focus rfl); (focus (first | exact qg2 | exact qs2))) | (apply run_qg 4; (focus rfl); (focus exact wt); (focus rfl); (focus (first | exact qg4 | exact qs4))) | (apply run_qg 5; (focus rfl); (focus exact wt); (focus rfl); (focus (exact qg5))) | refine cod_seq ?_ | refine cod_region ?_ | refine run_nil ?_ | refine pst_then ?_ | (apply cod_cond_f; (focus rfl)) | refine cod_skip ?_ | (apply run_osg 8; (focus rfl); (focus exact wt); (focus rfl); (focus (exact opr_box_agg rfl rfl)); (rintro _ _ ⟨b, rfl, rfl⟩)) | (apply run_osg 8; (focus rfl); (focus exact wt); (focus rfl); (focus (exact opr_new rfl)); (rintro _ _ ⟨b, rfl, rfl⟩)) | (apply run_ong 9; (focus rfl); (focus exact wt); (focus (exact opr_store_box_agg rfl rfl rfl (by exact pka) rfl rfl rfl (by exact spla))); (rintro _ _ ⟨rfl, rfl⟩)) | (apply run_osg 10; (focus rfl); (focus exact wt); (focus rfl); (focus (exact opr_buildSlice rfl rfl rfl (by exact blda) rfl rfl (by decide) rfl)); (rintro _ _ ⟨q, rfl, rfl⟩)) | (apply run_osg 7; (focus rfl); (focus exact wt); (focus rfl); (focus (exact opr_call_ls (by rfl) (A3 ..) (by rfl) lpa)); (rintro _ _ ⟨rfl, rfl⟩))))
    (refine run_os wt rfl (opr_call_l rfl (K0) rfl (by exact lpa)) ?_; rintro _ _ ⟨_, ⟨e, he, rfl, rfl⟩, rfl⟩; dsimp only [List.cons_append, List.nil_append])
    (repeat' (first | (apply run_qg 1; (focus rfl); (focus exact wt); (focus rfl); (focus (exact qg1))) | (apply run_qg 4; (focus rfl); (focus exact wt); (focus rfl); (focus (first | exact qg4 | exact qs4))) | (apply run_qg 6; (focus rfl); (focus exact wt); (focus rfl); (focus (first | exact qs6 | exact qg6 | exact q_max rfl rfl rfl | exact q_sliceData rfl rfl (by omega) | exact q_sliceDataN rfl rfl | exact q_unsafeStringN rfl rfl rfl | exact q_cap_slice rfl rfl))) | refine cod_seq ?_ | refine cod_region ?_ | refine run_nil ?_ | refine pst_then ?_ | (apply cod_cond_t; (focus rfl)) | refine cod_ret ?_ | refine pst_then_ret ?_))
    exact pst_fin rfl (by exact resa) _ (⟨rfl, rfl⟩) (by exact hsa)
theorem walk (W : World) (a : Value) (cs : List ByteArray) (ha : SliceAt W 1 a (cs.map fun s : ByteArray => [Value.string s])) (ga : ∀ s ∈ cs, s.size ≤ maxLen) (na : cs.length * Try.prog.bytesOf 9 ≤ reachBytes)
    (b : Value) (ps : List (Int × ByteArray)) (hb : SliceAt W 2 b (ps.map fun p : Int × ByteArray => [Value.int .i64 p.1, Value.string p.2])) (gb : ∀ p ∈ ps, (Lit.int .i64 p.1).wf = true ∧ p.2.size ≤ maxLen) (nb : ps.length * Try.prog.bytesOf 116 ≤ reachBytes)
    (c : Value) (at' : List (Int × Int)) (hc : SliceAt W 2 c (at'.map fun p : Int × Int => [Value.int .i64 p.1, Value.int .i64 p.2])) (gc : ∀ p ∈ at', (Lit.int .i64 p.1).wf = true ∧ (Lit.int .i64 p.2).wf = true) (nc : at'.length * Try.prog.bytesOf 62 ≤ reachBytes)
    (d : Value) (gs : List Int) (hd : SliceAt W 1 d (gs.map fun z : Int => [Value.int .i64 z])) (gd : ∀ z ∈ gs, (Lit.int .i64 z).wf = true) (nd : gs.length * Try.prog.bytesOf 3 ≤ reachBytes) :
    Calls Try.prog 7 #[.agg #[a, b], .agg #[c, d]] W fun e w' => e = .returned (.bool true) ∧ Below W.heap.size W w' := by
  have hr : reachBytes = 140737488351232 := rfl
  have h16 : Try.prog.bytesOf 62 = 16 := by kernel_rfl
  have h8 : Try.prog.bytesOf 3 = 8 := by kernel_rfl
  have hcl := len_bound (by kernel_rfl) na
  have hpl := len_bound (by kernel_rfl) nb
  rw [hr, h16] at nc
  rw [hr, h8] at nd
  obtain ⟨qa, ca, rfl⟩ := slice_shape ha
  obtain ⟨qb, cb, rfl⟩ := slice_shape hb
  obtain ⟨qc, cc, rfl⟩ := slice_shape hc
  obtain ⟨qd, cd, rfl⟩ := slice_shape hd
  simp only [List.length_map] at ha hb hc hd ⊢
  exact law_of_ct (sh_cons ha (sh_cons hb (sh_cons hc (sh_cons hd sh_nil)))) (law_any qa qb qc qd ca cb cc cd cs ps at' gs hcl hpl ⟨gc, gd, by omega, by omega⟩)
end Go.Proofs.Ytkkgmgffkjeklaa.lawUseSum
