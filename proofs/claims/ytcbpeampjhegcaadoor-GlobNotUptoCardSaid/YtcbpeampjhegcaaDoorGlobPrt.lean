/-
  glob.parts: the walk. (SAFE)
-/
import Derived.Test.YtcbpeampjhegcaaDoorGlobCls
import Derived.Test.YtcbpeampjhegcaaDoorSlMany2
namespace Go.Proofs.YtcbpeampjhegcaaDoor.glob
open Go.RowKit kit sl
set_option linter.unusedVariables false
theorem class_any (b : Nat) (q : Option Addr) (c k : Nat) (l : List Nat) (hl : l.length ≤ 1000000) (hk : k ≤ l.length) :
    Ct Tryd.prog 18 [bptr b 0] [rdB b q l.length c k, sl 1 (.slice q l.length c) (l.map fR)] fun v H' =>
      (∃ nt sp r, classS (l.drop k) = some ((false, nt, sp), r) ∧ ClsOk b q l.length c l nt sp r v H') ∨ (classS (l.drop k) = none ∧ ClsNo v H') := by
  refine spec_mono (class_from b q c k l hl hk) fun v H' h => ?_
  have e : (l.drop k).head? = l[k]? := by rw [List.head?_drop]
  have e2 : (l.drop k).tail = l.drop (k + 1) := by rw [List.tail_drop]
  have e3 : (l.drop (k + 1)).length + 1 = l.length - (k + 1) + 1 := by rw [List.length_drop]
  have e4 : (l.drop k).length + 1 = l.length - k + 1 := by rw [List.length_drop]
  unfold classS
  rw [e, e2, e3, e4]
  by_cases h33 : l[k]? = some 33
  · rw [if_pos h33, decide_eq_true h33] at h
    rw [if_pos h33]
    cases hc : classF (l.length - (k + 1) + 1) (l.drop (k + 1)) [] with
    | none => rw [hc] at h; exact .inr ⟨rfl, h⟩
    | some p => rw [hc] at h; exact .inl ⟨true, p.1, p.2, rfl, h⟩
  · rw [if_neg h33, decide_eq_false h33] at h
    rw [if_neg h33]
    cases hc : classF (l.length - k + 1) (l.drop k) [] with
    | none => rw [hc] at h; exact .inr ⟨rfl, h⟩
    | some p => rw [hc] at h; exact .inl ⟨false, p.1, p.2, rfl, h⟩
/-- parts as they lie: run, not, the slice of their spans -/
abbrev PV := Pt × Option Addr × Nat
def fPt (p : PV) : List Value := [.bool p.1.1, .bool p.1.2.1, .slice p.2.1 p.1.2.2.length p.2.2]
theorem one_fPt (p : PV) : ∀ u ∈ fPt p, u.oneCell' = true := by simp [fPt, Value.oneCell']
def lotP (p : PV) : Value × List (List Value) := (.slice p.2.1 p.1.2.2.length p.2.2, p.1.2.2.map fSp)
def PartsOk (ps : List Pt) (v : Value) (H' : List Ent) : Prop := ∃ (P : List PV) (q : Option Addr) (c : Nat), P.map Prod.fst = ps ∧ v = .tuple #[.slice q P.length c, .bool true] ∧ H' = [own (.slice q P.length c) 40 3 P.length (flat fPt P), many 2 (P.map lotP)]
theorem many_nil (sz : Nat) (H : List Ent) : HSub H (many sz [] :: H) := fun w hw =>
  HeapOk.shared hw rfl (fun p hp => absurd hp List.not_mem_nil) fun k hk => by
    obtain ⟨p, hp, _⟩ := hk
    cases hp
theorem many_one {sz : Nat} {H R : List Ent} {v : Value} {rows : List (List Value)} (p : Pick (sl sz v rows) H R) : HSub H (many sz [(v, rows)] :: R) :=
  heap_less p ⟨rfl, fun w hw x hx => by
    rw [List.mem_singleton.1 hx]
    exact hw.1 _ List.mem_cons_self, fun b hb => by
    obtain ⟨x, hx, hb⟩ := hb
    rw [List.mem_singleton.1 hx] at hb
    exact ⟨_, List.mem_cons_self, hb⟩⟩
theorem part_in {p : PV} {P : List PV} {ty : Nat} {H R S : List Ent} (h : Pick (own (lotP p).1 ty 2 p.1.2.2.length (flat fSp p.1.2.2)) H R) (m : Pick (many 2 (P.map lotP)) R S) : HSub H (many 2 ((P ++ [p]).map lotP) :: S) := fun w hw => by
  rw [List.map_append]
  exact many_app (.there m) .here w (many_one .here w (heap_sl (f := fSp) (ys := p.1.2.2) h (fun _ => rfl) rfl w hw))
theorem parts_put (a : List Pt) (p : Pt) (o : Option (List Pt)) : o.map ((a ++ [p]) ++ ·) = (o.map (p :: ·)).map (a ++ ·) := by
  cases o with
  | none => rfl
  | some l => simp
def PartsR (R : Option (List Pt)) (v : Value) (H' : List Ent) : Prop :=
  match R with
  | some ps => PartsOk ps v H'
  | none => v = .tuple #[.slice none 0 0, .bool false] ∧ H' = []
instance {b : Nat} {q : Option Addr} {n c : Nat} {l : List Nat} {nt : Bool} {sp : List (Nat × Nat)} {r : List Nat} : Xcl (ClsOk b q n c l nt sp r) := by unfold ClsOk rdB; infer_instance
attribute [local irreducible] box own sl old bptr eptr Qt Opr Run Cod Pst Drn
attribute [local irreducible] classF nextS rangeS classS partsF pieceS sigs decL
set_option maxRecDepth 100000 in
set_option maxHeartbeats 8000000 in
theorem parts_any {W : World} (hT : TabsIn W) (s : List UInt8) (hs : s.length ≤ 100000) : Ct Tryd.prog 11 [.string (str s)] [old W] (PartsR (partsS (sigs s))) := by
  have LS := list_any hT s (by omega)
  have hsl := (sig_bd (sig_sigs s)).1
  obtain ⟨R, hR⟩ : ∃ R, partsS (sigs s) = R := ⟨_, rfl⟩
  rw [hR]
  unfold partsS at hR
  generalize sigs s = l at *
  have OUT : ∀ (P : List PV) (q : Option Addr) (c : Nat), R = some (P.map Prod.fst) → PartsR R (.tuple #[.slice q P.length c, .bool true]) [own (.slice q P.length c) 40 3 P.length (flat fPt P), many 2 (P.map lotP)] := fun P q c h => by
    rw [h]
    exact ⟨P, q, c, rfl, rfl, rfl⟩
  have NO : R = none → PartsR R (.tuple #[.slice none 0 0, .bool false]) [] := fun h => by rw [h]; exact ⟨rfl, rfl⟩
  generalize PartsR R = RR at *
  have hone : ∀ y, ∀ u ∈ fPt y, u.oneCell' = true := one_fPt
  (refine spec_enter Tryd.func11 Tryd.ntmps11 rfl rfl fun Fr => ?_; dsimp only [List.cons_append, List.nil_append, ini, Nat.reduceAdd])
  (repeat' (first | (apply run_qg 1; (focus rfl); (focus exact wt); (focus rfl); (focus (exact qg1))) | refine cod_seq ?_ | refine cod_region ?_ | refine run_nil ?_ | refine pst_then ?_ | fail))
  (refine run_os wt rfl (opr_call_l rfl (LS) rfl (by exact lpa)) ?_; rintro _ _ ⟨_, ⟨q, c, rfl, rfl⟩, rfl⟩; dsimp only [List.cons_append, List.nil_append])
  refine run_heap (heap_sl (f := fR) (ys := l) pka (fun _ => rfl) rfl) ?_
  (repeat' (first | (apply run_qg 1; (focus rfl); (focus exact wt); (focus rfl); (focus (exact qg1))) | (apply run_qg 5; (focus rfl); (focus exact wt); (focus rfl); (focus (exact qg5))) | refine cod_seq ?_ | refine cod_region ?_ | refine run_nil ?_ | refine pst_then ?_ | refine cod_block ?_ | (apply run_osg 8; (focus rfl); (focus exact wt); (focus rfl); (focus (exact opr_new rfl)); (rintro _ _ ⟨b, rfl, rfl⟩)) | (apply run_ong 9; (focus rfl); (focus exact wt); (focus (exact opr_store_box_agg rfl rfl rfl (by exact pka) rfl rfl rfl (by exact spla))); (rintro _ _ ⟨rfl, rfl⟩)) | fail))
  obtain ⟨b0, hb0⟩ : ∃ x, x = b := ⟨_, rfl⟩
  subst hb0
  have hNX0 := fun k h1 h2 => next_none b0 q c k l (by omega) h1 h2
  have hNX := fun k x p r h => next_some b0 q c k l (by omega) (x := x) (p := p) (r := r) h
  have hCL := fun k h => class_any b0 q c k l (by omega) h
  unfold rdB at hNX0 hNX hCL
  refine cod_heap (heap_nil _ 40 3) ?_
  refine cod_heap (many_nil 2 _) ?_
  (refine cod_loop_rw (σ := Nat × Nat × List PV × Option Addr × Nat) (fun x => (x.2.1 ≤ l.length ∧ l.length - x.2.1 ≤ x.1) ∧ (partsF x.1 (l.drop x.2.1)).map (x.2.2.1.map Prod.fst ++ ·) = R ∧ x.2.2.1.length ≤ x.2.1) (fun x => [(5, .slice x.2.2.2.1 x.2.2.1.length x.2.2.2.2)]) (fun x => [many 2 (x.2.2.1.map lotP), own (.slice x.2.2.2.1 x.2.2.1.length x.2.2.2.2) 40 3 x.2.2.1.length (flat fPt x.2.2.1), box b0 [.slice q l.length c, .int .i64 (x.2.1 : Int)] 52]) _ (fun x => x.1) ((l.length, 0, [], none, 0)) (by exact ⟨⟨Nat.zero_le _, Nat.le_refl _⟩, by rw [List.drop_zero, hR]; cases R <;> rfl, Nat.zero_le _⟩) (by exact fsa) (by (first | exact HSub.of_picks_rest (by exact pca))) (fun ⟨f, k1, P, qo, co⟩ ⟨⟨hk1, hf⟩, hF, hPl⟩ => ?_); dsimp only [List.cons_append, List.nil_append])
  dsimp only at hk1 hf hF hPl
  rcases get_or l k1 with ⟨y, hy, hlt⟩ | hge
  · obtain ⟨f, rfl⟩ : ∃ f', f = f' + 1 := ⟨f - 1, by omega⟩
    have hd1 := drop_at hy
    rw [hd1, partsF, ← hd1] at hF
    rcases hn : nextS (l.drop k1) with _ | ⟨x, p, r⟩
    · rw [hn] at hF
      have N1 := hNX0 k1 hk1 hn
      (repeat' (first | (apply run_qg 1; (focus rfl); (focus exact wt); (focus rfl); (focus (exact qg1))) | (apply run_qg 2; (focus rfl); (focus exact wt); (focus rfl); (focus (first | exact qg2 | exact qs2))) | (apply run_qg 3; (focus rfl); (focus exact wt); (focus rfl); (focus (first | exact qg3 | exact qs3))) | (apply run_qg 4; (focus rfl); (focus exact wt); (focus rfl); (focus (first | exact qg4 | exact qs4))) | (apply run_qg 6; (focus rfl); (focus exact wt); (focus rfl); (focus (first | exact qs6 | exact qg6 | exact q_max rfl rfl rfl | exact q_sliceData rfl rfl (by omega) | exact q_sliceDataN rfl rfl | exact q_unsafeStringN rfl rfl rfl | exact q_cap_slice rfl rfl))) | refine cod_seq ?_ | refine cod_region ?_ | refine run_nil ?_ | refine pst_then ?_ | (apply cod_cond_t; (focus rfl)) | refine cod_block ?_ | refine cod_ret ?_ | refine cod_skip ?_ | refine pst_block_ret ?_ | refine pst_then_ret ?_ | (apply run_osg 7; (focus rfl); (focus exact wt); (focus rfl); (focus (exact opr_call_ls (by rfl) (N1 ..) (by rfl) lpa)); (rintro _ _ ⟨rfl, rfl⟩)) | fail))
      exact pst_fin rfl (by exact resa) _ (NO hF.symm) (by exact hsa)
    · rw [hn] at hF
      dsimp only at hF
      have N1 := hNX k1 x p r hn
      (repeat' (first | (apply run_qg 2; (focus rfl); (focus exact wt); (focus rfl); (focus (first | exact qg2 | exact qs2))) | (apply run_qg 3; (focus rfl); (focus exact wt); (focus rfl); (focus (first | exact qg3 | exact qs3))) | (apply run_qg 4; (focus rfl); (focus exact wt); (focus rfl); (focus (first | exact qg4 | exact qs4))) | (apply run_qg 6; (focus rfl); (focus exact wt); (focus rfl); (focus (first | exact qs6 | exact qg6 | exact q_max rfl rfl rfl | exact q_sliceData rfl rfl (by omega) | exact q_sliceDataN rfl rfl | exact q_unsafeStringN rfl rfl rfl | exact q_cap_slice rfl rfl))) | refine cod_seq ?_ | refine cod_region ?_ | refine run_nil ?_ | refine pst_then ?_ | (apply cod_cond_t; (focus rfl)) | refine cod_block ?_ | refine cod_skip ?_ | fail))
      (refine run_os wt rfl (opr_call_l rfl (N1) rfl (by exact lpa)) ?_; rintro _ _ ⟨_, ⟨k2, hk2, hk2l, hd2, rfl, rfl⟩, rfl⟩; dsimp only [List.cons_append, List.nil_append])
      rw [← hd2] at hF
      unfold pieceS at hF
      cases p with
      | true =>
        rw [if_pos rfl] at hF
        (repeat' (first | (apply run_qg 1; (focus rfl); (focus exact wt); (focus rfl); (focus (exact qg1))) | (apply run_qg 2; (focus rfl); (focus exact wt); (focus rfl); (focus (first | exact qg2 | exact qs2))) | (apply run_qg 4; (focus rfl); (focus exact wt); (focus rfl); (focus (first | exact qg4 | exact qs4))) | (apply run_qg 5; (focus rfl); (focus exact wt); (focus rfl); (focus (exact qg5))) | refine cod_seq ?_ | refine cod_region ?_ | refine run_nil ?_ | refine pst_then ?_ | (apply cod_cond_f; (focus rfl)) | refine cod_skip ?_ | (apply run_osg 8; (focus rfl); (focus exact wt); (focus rfl); (focus (exact opr_new rfl)); (rintro _ _ ⟨b, rfl, rfl⟩)) | (apply run_ong 9; (focus rfl); (focus exact wt); (focus (exact opr_store_box_agg rfl rfl rfl (by exact pka) rfl rfl rfl (by exact spla))); (rintro _ _ ⟨rfl, rfl⟩)) | (apply run_osg 10; (focus rfl); (focus exact wt); (focus rfl); (focus (exact opr_buildSlice rfl rfl rfl (by exact blda) rfl rfl (by decide) rfl)); (rintro _ _ ⟨q, rfl, rfl⟩)) | fail))
        rename_i q5
        refine run_os wt (by rfl) (by first | exact opr_append_lit0 (fPt) [((((false, false, [(x, x)]) : Pt), q5, 1) : PV)] rfl rfl rfl (by exact pka) (by rfl) (by rfl) (by intro _; rfl) (by (first | exact one_fS | exact one_fI | exact one_fB | exact one_fP | exact one_fIIS | exact one_fIIIS | exact one_fII | exact one_fSI | exact one_fIIU | exact one_fY | exact one_fBl | exact one_fT | exact one_fE | assumption)) rfl (by simp only [List.length_cons, List.length_nil]; omega) (by (unfold maxLen); simp only [List.length_cons, List.length_nil]; omega) | exact opr_append_lit (fPt) [((((false, false, [(x, x)]) : Pt), q5, 1) : PV)] rfl rfl rfl (by exact pka) (by exact pka) (by rfl) (by rfl) (by first | rfl | omega) (by intro _; rfl) (by (first | exact one_fS | exact one_fI | exact one_fB | exact one_fP | exact one_fIIS | exact one_fIIIS | exact one_fII | exact one_fSI | exact one_fIIU | exact one_fY | exact one_fBl | exact one_fT | exact one_fE | assumption)) rfl (by simp only [List.length_cons, List.length_nil]; omega) (by (unfold maxLen); simp only [List.length_cons, List.length_nil]; omega)) ?_
        rintro _ _ ⟨qn, cn, rfl, rfl⟩
        refine run_heap (part_in (p := ((((false, false, [(x, x)]) : Pt), q5, 1) : PV)) pka pka) ?_
        (repeat' (first | (apply run_qg 1; (focus rfl); (focus exact wt); (focus rfl); (focus (exact qg1))) | refine run_nil ?_ | refine pst_block ?_ | fail))
        refine pst_again ((f, k2, P ++ [((((false, false, [(x, x)]) : Pt), q5, 1) : PV)], qn, cn)) ?_ (FSub.of (by (try dsimp only); exact fsa)) (by (try dsimp only); exact hsa) ?_
        · exact ⟨⟨by omega, by dsimp only; omega⟩, by rw [← hF, List.map_append]; exact parts_put _ _ _, by dsimp only; rw [List.length_append, List.length_singleton]; omega⟩
        · exact Nat.lt_succ_self f
      | false =>
        rw [if_neg (by decide)] at hF
        by_cases h42 : x = 42
        · subst h42
          rw [if_pos rfl] at hF
          (repeat' (first | (apply run_qg 1; (focus rfl); (focus exact wt); (focus rfl); (focus (exact qg1))) | (apply run_qg 2; (focus rfl); (focus exact wt); (focus rfl); (focus (first | exact qg2 | exact qs2))) | (apply run_qg 4; (focus rfl); (focus exact wt); (focus rfl); (focus (first | exact qg4 | exact qs4))) | (apply run_qg 5; (focus rfl); (focus exact wt); (focus rfl); (focus (exact qg5))) | refine cod_seq ?_ | refine cod_region ?_ | refine run_nil ?_ | refine pst_then ?_ | (apply cod_cond_t; (focus rfl)) | (apply cod_cond_f; (focus rfl)) | refine cod_block ?_ | refine cod_skip ?_ | refine pst_block ?_ | (apply run_osg 8; (focus rfl); (focus exact wt); (focus rfl); (focus (exact opr_new rfl)); (rintro _ _ ⟨b, rfl, rfl⟩)) | (apply run_ong 9; (focus rfl); (focus exact wt); (focus (exact opr_store_box_agg rfl rfl rfl (by exact pka) rfl rfl rfl (by exact spla))); (rintro _ _ ⟨rfl, rfl⟩)) | (apply run_osg 10; (focus rfl); (focus exact wt); (focus rfl); (focus (exact opr_buildSlice rfl rfl rfl (by exact blda) rfl rfl (by decide) rfl)); (rintro _ _ ⟨q, rfl, rfl⟩)) | fail))
          refine run_os wt (by rfl) (by first | exact opr_append_lit0 (fPt) [((((true, false, []) : Pt), none, 0) : PV)] rfl rfl rfl (by exact pka) (by rfl) (by rfl) (by intro _; rfl) (by (first | exact one_fS | exact one_fI | exact one_fB | exact one_fP | exact one_fIIS | exact one_fIIIS | exact one_fII | exact one_fSI | exact one_fIIU | exact one_fY | exact one_fBl | exact one_fT | exact one_fE | assumption)) rfl (by simp only [List.length_cons, List.length_nil]; omega) (by (unfold maxLen); simp only [List.length_cons, List.length_nil]; omega) | exact opr_append_lit (fPt) [((((true, false, []) : Pt), none, 0) : PV)] rfl rfl rfl (by exact pka) (by exact pka) (by rfl) (by rfl) (by first | rfl | omega) (by intro _; rfl) (by (first | exact one_fS | exact one_fI | exact one_fB | exact one_fP | exact one_fIIS | exact one_fIIIS | exact one_fII | exact one_fSI | exact one_fIIU | exact one_fY | exact one_fBl | exact one_fT | exact one_fE | assumption)) rfl (by simp only [List.length_cons, List.length_nil]; omega) (by (unfold maxLen); simp only [List.length_cons, List.length_nil]; omega)) ?_
          rintro _ _ ⟨qn, cn, rfl, rfl⟩
          refine run_heap (heap_nil _ 56 2) ?_
          refine run_heap (part_in (p := ((((true, false, []) : Pt), none, 0) : PV)) pka pka) ?_
          (repeat' (first | (apply run_qg 1; (focus rfl); (focus exact wt); (focus rfl); (focus (exact qg1))) | refine run_nil ?_ | refine pst_block ?_ | fail))
          refine pst_again ((f, k2, P ++ [((((true, false, []) : Pt), none, 0) : PV)], qn, cn)) ?_ (FSub.of (by (try dsimp only); exact fsa)) (by (try dsimp only); exact hsa) ?_
          · exact ⟨⟨by omega, by dsimp only; omega⟩, by rw [← hF, List.map_append]; exact parts_put _ _ _, by dsimp only; rw [List.length_append, List.length_singleton]; omega⟩
          · exact Nat.lt_succ_self f
        · rw [if_neg h42] at hF
          have h42' : ¬ ((x : Int) = 42) := by omega
          by_cases h63 : x = 63
          · subst h63
            rw [if_pos rfl] at hF
            (repeat' (first | (apply run_qg 1; (focus rfl); (focus exact wt); (focus rfl); (focus (exact qg1))) | (apply run_qg 2; (focus rfl); (focus exact wt); (focus rfl); (focus (first | exact qg2 | exact qs2))) | (apply run_qg 4; (focus rfl); (focus exact wt); (focus rfl); (focus (first | exact qg4 | exact qs4))) | (apply run_qg 5; (focus rfl); (focus exact wt); (focus rfl); (focus (exact qg5))) | refine cod_seq ?_ | refine cod_region ?_ | refine run_nil ?_ | refine pst_then ?_ | (apply cod_cond_t; (focus rfl)) | (apply cod_cond_f; (focus rfl)) | refine cod_block ?_ | refine cod_skip ?_ | refine pst_block ?_ | (apply run_osg 8; (focus rfl); (focus exact wt); (focus rfl); (focus (exact opr_new rfl)); (rintro _ _ ⟨b, rfl, rfl⟩)) | (apply run_ong 9; (focus rfl); (focus exact wt); (focus (exact opr_store_box_agg rfl rfl rfl (by exact pka) rfl rfl rfl (by exact spla))); (rintro _ _ ⟨rfl, rfl⟩)) | (apply run_osg 10; (focus rfl); (focus exact wt); (focus rfl); (focus (exact opr_buildSlice rfl rfl rfl (by exact blda) rfl rfl (by decide) rfl)); (rintro _ _ ⟨q, rfl, rfl⟩)) | fail))
            refine run_os wt (by rfl) (by first | exact opr_append_lit0 (fPt) [((((false, true, []) : Pt), none, 0) : PV)] rfl rfl rfl (by exact pka) (by rfl) (by rfl) (by intro _; rfl) (by (first | exact one_fS | exact one_fI | exact one_fB | exact one_fP | exact one_fIIS | exact one_fIIIS | exact one_fII | exact one_fSI | exact one_fIIU | exact one_fY | exact one_fBl | exact one_fT | exact one_fE | assumption)) rfl (by simp only [List.length_cons, List.length_nil]; omega) (by (unfold maxLen); simp only [List.length_cons, List.length_nil]; omega) | exact opr_append_lit (fPt) [((((false, true, []) : Pt), none, 0) : PV)] rfl rfl rfl (by exact pka) (by exact pka) (by rfl) (by rfl) (by first | rfl | omega) (by intro _; rfl) (by (first | exact one_fS | exact one_fI | exact one_fB | exact one_fP | exact one_fIIS | exact one_fIIIS | exact one_fII | exact one_fSI | exact one_fIIU | exact one_fY | exact one_fBl | exact one_fT | exact one_fE | assumption)) rfl (by simp only [List.length_cons, List.length_nil]; omega) (by (unfold maxLen); simp only [List.length_cons, List.length_nil]; omega)) ?_
            rintro _ _ ⟨qn, cn, rfl, rfl⟩
            refine run_heap (heap_nil _ 56 2) ?_
            refine run_heap (part_in (p := ((((false, true, []) : Pt), none, 0) : PV)) pka pka) ?_
            (repeat' (first | (apply run_qg 1; (focus rfl); (focus exact wt); (focus rfl); (focus (exact qg1))) | refine run_nil ?_ | refine pst_block ?_ | fail))
            refine pst_again ((f, k2, P ++ [((((false, true, []) : Pt), none, 0) : PV)], qn, cn)) ?_ (FSub.of (by (try dsimp only); exact fsa)) (by (try dsimp only); exact hsa) ?_
            · exact ⟨⟨by omega, by dsimp only; omega⟩, by rw [← hF, List.map_append]; exact parts_put _ _ _, by dsimp only; rw [List.length_append, List.length_singleton]; omega⟩
            · exact Nat.lt_succ_self f
          · rw [if_neg h63] at hF
            have h63' : ¬ ((x : Int) = 63) := by omega
            by_cases h91 : x = 91
            · subst h91
              rw [if_pos rfl] at hF
              have K := hCL k2 hk2l
              rcases hcs : classS (l.drop k2) with _ | ⟨pt, r2⟩
              · rw [hcs] at hF
                have K : Ct Tryd.prog 18 [bptr b0 0] [box b0 [.slice q l.length c, .int .i64 (k2 : Int)] 52, sl 1 (.slice q l.length c) (l.map fR)] ClsNo := ct_imp K fun v H' h => by
                  rcases h with ⟨_, _, _, h9, _⟩ | ⟨_, h9⟩
                  · rw [hcs] at h9; cases h9
                  · exact h9
                unfold ClsNo at K
                (repeat' (first | (apply run_qg 1; (focus rfl); (focus exact wt); (focus rfl); (focus (exact qg1))) | (apply run_qg 4; (focus rfl); (focus exact wt); (focus rfl); (focus (first | exact qg4 | exact qs4))) | (apply run_qg 5; (focus rfl); (focus exact wt); (focus rfl); (focus (exact qg5))) | refine cod_seq ?_ | refine cod_region ?_ | refine run_nil ?_ | refine pst_then ?_ | (apply cod_cond_t; (focus rfl)) | (apply cod_cond_f; (focus rfl)) | refine cod_block ?_ | refine cod_skip ?_ | (apply run_osg 8; (focus rfl); (focus exact wt); (focus rfl); (focus (exact opr_new rfl)); (rintro _ _ ⟨b, rfl, rfl⟩)) | (apply run_ong 9; (focus rfl); (focus exact wt); (focus (exact opr_store_box_agg rfl rfl rfl (by exact pka) rfl rfl rfl (by exact spla))); (rintro _ _ ⟨rfl, rfl⟩)) | (apply run_osg 10; (focus rfl); (focus exact wt); (focus rfl); (focus (exact opr_buildSlice rfl rfl rfl (by exact blda) rfl rfl (by decide) rfl)); (rintro _ _ ⟨q, rfl, rfl⟩)) | fail))
                (refine run_os wt rfl (opr_call_l rfl (K) rfl (by exact lpa)) ?_; rintro _ _ ⟨_, ⟨nt, q6, n6, c6, rfl, rfl⟩, rfl⟩; dsimp only [List.cons_append, List.nil_append])
                (repeat' (first | (apply run_qg 1; (focus rfl); (focus exact wt); (focus rfl); (focus (exact qg1))) | (apply run_qg 4; (focus rfl); (focus exact wt); (focus rfl); (focus (first | exact qg4 | exact qs4))) | refine cod_seq ?_ | refine cod_region ?_ | refine run_nil ?_ | refine pst_then ?_ | (apply cod_cond_t; (focus rfl)) | refine cod_ret ?_ | refine pst_block_ret ?_ | refine pst_then_ret ?_ | (apply run_ong 9; (focus rfl); (focus exact wt); (focus (exact opr_store_box_agg rfl rfl rfl (by exact pka) rfl rfl rfl (by exact spla))); (rintro _ _ ⟨rfl, rfl⟩)) | fail))
                exact pst_fin rfl (by exact resa) _ (NO hF.symm) (by exact hsa)
              · rw [hcs] at hF
                have K : Ct Tryd.prog 18 [bptr b0 0] [box b0 [.slice q l.length c, .int .i64 (k2 : Int)] 52, sl 1 (.slice q l.length c) (l.map fR)] fun v H' => ∃ nt sp q' c' k', pt = (false, nt, sp) ∧ k' ≤ l.length ∧ l.drop k' = r2 ∧ v = .tuple #[.agg #[.bool false, .bool nt, .slice q' sp.length c'], .bool true] ∧ H' = [own (.slice q' sp.length c') 56 2 sp.length (flat fSp sp), box b0 [.slice q l.length c, .int .i64 (k' : Int)] 52] := ct_imp K fun v H' h => by
                  rcases h with ⟨nt, sp, r3, h9, q', c', k', h10, h11, h12, h13⟩ | ⟨h9, _⟩
                  · rw [hcs] at h9
                    cases h9
                    exact ⟨nt, sp, q', c', k', rfl, h10, h11, h12, h13⟩
                  · rw [hcs] at h9; cases h9
                have hcl := classS_less hcs
                (repeat' (first | (apply run_qg 1; (focus rfl); (focus exact wt); (focus rfl); (focus (exact qg1))) | (apply run_qg 4; (focus rfl); (focus exact wt); (focus rfl); (focus (first | exact qg4 | exact qs4))) | (apply run_qg 5; (focus rfl); (focus exact wt); (focus rfl); (focus (exact qg5))) | refine cod_seq ?_ | refine cod_region ?_ | refine run_nil ?_ | refine pst_then ?_ | (apply cod_cond_t; (focus rfl)) | (apply cod_cond_f; (focus rfl)) | refine cod_block ?_ | refine cod_skip ?_ | (apply run_osg 8; (focus rfl); (focus exact wt); (focus rfl); (focus (exact opr_new rfl)); (rintro _ _ ⟨b, rfl, rfl⟩)) | (apply run_ong 9; (focus rfl); (focus exact wt); (focus (exact opr_store_box_agg rfl rfl rfl (by exact pka) rfl rfl rfl (by exact spla))); (rintro _ _ ⟨rfl, rfl⟩)) | (apply run_osg 10; (focus rfl); (focus exact wt); (focus rfl); (focus (exact opr_buildSlice rfl rfl rfl (by exact blda) rfl rfl (by decide) rfl)); (rintro _ _ ⟨q, rfl, rfl⟩)) | fail))
                (refine run_os wt rfl (opr_call_l rfl (K) rfl (by exact lpa)) ?_; rintro _ _ ⟨_, ⟨nt, sp, q6, c6, k3, rfl, hk3, hd3, rfl, rfl⟩, rfl⟩; dsimp only [List.cons_append, List.nil_append])
                rw [← hd3] at hF hcl
                rw [List.length_drop, List.length_drop] at hcl
                (repeat' (first | (apply run_qg 1; (focus rfl); (focus exact wt); (focus rfl); (focus (exact qg1))) | (apply run_qg 2; (focus rfl); (focus exact wt); (focus rfl); (focus (first | exact qg2 | exact qs2))) | (apply run_qg 4; (focus rfl); (focus exact wt); (focus rfl); (focus (first | exact qg4 | exact qs4))) | refine cod_seq ?_ | refine cod_region ?_ | refine run_nil ?_ | refine pst_then ?_ | (apply cod_cond_f; (focus rfl)) | refine cod_skip ?_ | refine pst_block ?_ | (apply run_ong 9; (focus rfl); (focus exact wt); (focus (exact opr_store_box_agg rfl rfl rfl (by exact pka) rfl rfl rfl (by exact spla))); (rintro _ _ ⟨rfl, rfl⟩)) | (apply run_osg 10; (focus rfl); (focus exact wt); (focus rfl); (focus (exact opr_buildSlice rfl rfl rfl (by exact blda) rfl rfl (by decide) rfl)); (rintro _ _ ⟨q, rfl, rfl⟩)) | fail))
                refine run_os wt (by rfl) (by first | exact opr_append_lit0 (fPt) [((((false, nt, sp) : Pt), q6, c6) : PV)] rfl rfl rfl (by exact pka) (by rfl) (by rfl) (by intro _; rfl) (by (first | exact one_fS | exact one_fI | exact one_fB | exact one_fP | exact one_fIIS | exact one_fIIIS | exact one_fII | exact one_fSI | exact one_fIIU | exact one_fY | exact one_fBl | exact one_fT | exact one_fE | assumption)) rfl (by simp only [List.length_cons, List.length_nil]; omega) (by (unfold maxLen); simp only [List.length_cons, List.length_nil]; omega) | exact opr_append_lit (fPt) [((((false, nt, sp) : Pt), q6, c6) : PV)] rfl rfl rfl (by exact pka) (by exact pka) (by rfl) (by rfl) (by first | rfl | omega) (by intro _; rfl) (by (first | exact one_fS | exact one_fI | exact one_fB | exact one_fP | exact one_fIIS | exact one_fIIIS | exact one_fII | exact one_fSI | exact one_fIIU | exact one_fY | exact one_fBl | exact one_fT | exact one_fE | assumption)) rfl (by simp only [List.length_cons, List.length_nil]; omega) (by (unfold maxLen); simp only [List.length_cons, List.length_nil]; omega)) ?_
                rintro _ _ ⟨qn, cn, rfl, rfl⟩
                refine run_heap (part_in (p := ((((false, nt, sp) : Pt), q6, c6) : PV)) pka pka) ?_
                (repeat' (first | (apply run_qg 1; (focus rfl); (focus exact wt); (focus rfl); (focus (exact qg1))) | refine run_nil ?_ | refine pst_block ?_ | fail))
                refine pst_again ((f, k3, P ++ [((((false, nt, sp) : Pt), q6, c6) : PV)], qn, cn)) ?_ (FSub.of (by (try dsimp only); exact fsa)) (by (try dsimp only); exact hsa) ?_
                · exact ⟨⟨by omega, by dsimp only; omega⟩, by rw [← hF, List.map_append]; exact parts_put _ _ _, by dsimp only; rw [List.length_append, List.length_singleton]; omega⟩
                · exact Nat.lt_succ_self f
            · rw [if_neg h91] at hF
              have h91' : ¬ ((x : Int) = 91) := by omega
              (repeat' (first | (apply run_qg 1; (focus rfl); (focus exact wt); (focus rfl); (focus (exact qg1))) | (apply run_qg 2; (focus rfl); (focus exact wt); (focus rfl); (focus (first | exact qg2 | exact qs2))) | (apply run_qg 4; (focus rfl); (focus exact wt); (focus rfl); (focus (first | exact qg4 | exact qs4))) | (apply run_qg 5; (focus rfl); (focus exact wt); (focus rfl); (focus (exact qg5))) | refine cod_seq ?_ | refine cod_region ?_ | refine run_nil ?_ | refine pst_then ?_ | (apply cod_cond_t; (focus rfl)) | (apply cod_cond_f; (focus rfl)) | refine cod_block ?_ | refine cod_skip ?_ | refine pst_block ?_ | (apply run_osg 8; (focus rfl); (focus exact wt); (focus rfl); (focus (exact opr_new rfl)); (rintro _ _ ⟨b, rfl, rfl⟩)) | (apply run_ong 9; (focus rfl); (focus exact wt); (focus (exact opr_store_box_agg rfl rfl rfl (by exact pka) rfl rfl rfl (by exact spla))); (rintro _ _ ⟨rfl, rfl⟩)) | (apply run_osg 10; (focus rfl); (focus exact wt); (focus rfl); (focus (exact opr_buildSlice rfl rfl rfl (by exact blda) rfl rfl (by decide) rfl)); (rintro _ _ ⟨q, rfl, rfl⟩)) | fail))
              rename_i q5
              refine run_os wt (by rfl) (by first | exact opr_append_lit0 (fPt) [((((false, false, [(x, x)]) : Pt), q5, 1) : PV)] rfl rfl rfl (by exact pka) (by rfl) (by rfl) (by intro _; rfl) (by (first | exact one_fS | exact one_fI | exact one_fB | exact one_fP | exact one_fIIS | exact one_fIIIS | exact one_fII | exact one_fSI | exact one_fIIU | exact one_fY | exact one_fBl | exact one_fT | exact one_fE | assumption)) rfl (by simp only [List.length_cons, List.length_nil]; omega) (by (unfold maxLen); simp only [List.length_cons, List.length_nil]; omega) | exact opr_append_lit (fPt) [((((false, false, [(x, x)]) : Pt), q5, 1) : PV)] rfl rfl rfl (by exact pka) (by exact pka) (by rfl) (by rfl) (by first | rfl | omega) (by intro _; rfl) (by (first | exact one_fS | exact one_fI | exact one_fB | exact one_fP | exact one_fIIS | exact one_fIIIS | exact one_fII | exact one_fSI | exact one_fIIU | exact one_fY | exact one_fBl | exact one_fT | exact one_fE | assumption)) rfl (by simp only [List.length_cons, List.length_nil]; omega) (by (unfold maxLen); simp only [List.length_cons, List.length_nil]; omega)) ?_
              rintro _ _ ⟨qn, cn, rfl, rfl⟩
              refine run_heap (part_in (p := ((((false, false, [(x, x)]) : Pt), q5, 1) : PV)) pka pka) ?_
              (repeat' (first | (apply run_qg 1; (focus rfl); (focus exact wt); (focus rfl); (focus (exact qg1))) | refine run_nil ?_ | refine pst_block ?_ | fail))
              refine pst_again ((f, k2, P ++ [((((false, false, [(x, x)]) : Pt), q5, 1) : PV)], qn, cn)) ?_ (FSub.of (by (try dsimp only); exact fsa)) (by (try dsimp only); exact hsa) ?_
              · exact ⟨⟨by omega, by dsimp only; omega⟩, by rw [← hF, List.map_append]; exact parts_put _ _ _, by dsimp only; rw [List.length_append, List.length_singleton]; omega⟩
              · exact Nat.lt_succ_self f
  · have hkl : k1 = l.length := by omega
    subst hkl
    rw [List.drop_length] at hF
    have h0 : partsF f [] = some [] := by unfold partsF; cases f <;> rfl
    rw [h0] at hF
    have hF : R = some (P.map Prod.fst) := by rw [← hF]; simp
    (repeat' (first | (apply run_qg 1; (focus rfl); (focus exact wt); (focus rfl); (focus (exact qg1))) | (apply run_qg 2; (focus rfl); (focus exact wt); (focus rfl); (focus (first | exact qg2 | exact qs2))) | (apply run_qg 3; (focus rfl); (focus exact wt); (focus rfl); (focus (first | exact qg3 | exact qs3))) | (apply run_qg 4; (focus rfl); (focus exact wt); (focus rfl); (focus (first | exact qg4 | exact qs4))) | (apply run_qg 6; (focus rfl); (focus exact wt); (focus rfl); (focus (first | exact qs6 | exact qg6 | exact q_max rfl rfl rfl | exact q_sliceData rfl rfl (by omega) | exact q_sliceDataN rfl rfl | exact q_unsafeStringN rfl rfl rfl | exact q_cap_slice rfl rfl))) | refine cod_seq ?_ | refine cod_region ?_ | refine run_nil ?_ | refine pst_then ?_ | (apply cod_cond_f; (focus rfl)) | refine cod_exit ?_ | refine cod_ret ?_ | refine pst_block_here ?_ | refine pst_then_exit ?_ | fail))
    exact pst_fin rfl (by exact resa) _ (OUT P qo co hF) (by exact hsa)
end Go.Proofs.YtcbpeampjhegcaaDoor.glob
