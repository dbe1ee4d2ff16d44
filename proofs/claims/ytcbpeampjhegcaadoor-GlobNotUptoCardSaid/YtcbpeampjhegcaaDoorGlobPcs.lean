/-
  linenref.Pieces: the walk.
-/
import Derived.Test.YtcbpeampjhegcaaDoorGlobPc
namespace Go.Proofs.YtcbpeampjhegcaaDoor.glob
open Go.RowKit kit sl
set_option linter.unusedVariables false
theorem partsF_fix : ∀ (n : Nat) (l : List Nat) (f : Nat), l.length ≤ n → l.length ≤ f → partsF f l = partsF l.length l
  | _, [], f, _, _ => by cases f <;> rfl
  | 0, _ :: _, _, h, _ => by simp at h
  | n + 1, y :: l, 0, _, h => by simp at h
  | n + 1, y :: l, f + 1, hn, hf => by
    rw [List.length_cons, partsF, partsF]
    cases hx : nextS (y :: l) with
    | none => rfl
    | some w =>
      obtain ⟨c, b, r⟩ := w
      dsimp only
      have h1 := (next_less hx).1
      cases hp : pieceS c b r with
      | none => rfl
      | some w =>
        obtain ⟨p, r'⟩ := w
        dsimp only
        have h2 := pieceS_less hp
        simp only [List.length_cons] at hn hf h1
        rw [partsF_fix n r' f (by omega) (by omega), partsF_fix n r' l.length (by omega) (by omega)]
theorem parts_nil : partsS [] = some [] := rfl
theorem parts_step {l r r' : List Nat} {c : Nat} {b : Bool} {p : Pt} (hl : l ≠ []) (hx : nextS l = some (c, b, r)) (hp : pieceS c b r = some (p, r')) : partsS l = (partsS r').map (p :: ·) := by
  match l, hl with
  | y :: l, _ =>
    unfold partsS
    rw [List.length_cons, partsF, hx]
    dsimp only
    rw [hp]
    dsimp only
    have h1 := (next_less hx).1
    have h2 := pieceS_less hp
    simp only [List.length_cons] at h1
    rw [partsF_fix r'.length r' l.length (Nat.le_refl _) (by omega)]
theorem parts_no {l r : List Nat} {c : Nat} {b : Bool} (hl : l ≠ []) (hx : nextS l = some (c, b, r)) (hp : pieceS c b r = none) : partsS l = none := by
  match l, hl with
  | y :: l, _ =>
    unfold partsS
    rw [List.length_cons, partsF, hx]
    dsimp only
    rw [hp]
theorem parts_none {l : List Nat} (hl : l ≠ []) (hx : nextS l = none) : partsS l = none := by
  match l, hl with
  | y :: l, _ =>
    unfold partsS
    rw [List.length_cons, partsF, hx]
theorem range_is {l r : List Nat} (h : rangeS l = some r) : ∃ a, l = a ++ r := by
  match l, h with
  | x :: d :: t, h =>
    rw [rangeS] at h
    split at h
    · cases h; exact ⟨[x], rfl⟩
    · cases h
theorem classF_suf : ∀ (f : Nat) (l : List Nat) (acc sp : List (Nat × Nat)) (r : List Nat), classF f l acc = some (sp, r) → ∃ a, l = a ++ r
  | 0, _, _, _, _, h => by cases h
  | f + 1, l, acc, sp, r, h => by
    rw [classF] at h
    cases hn : nextS l with
    | none => rw [hn] at h; cases h
    | some x =>
      obtain ⟨c, plain, t⟩ := x
      obtain ⟨a1, e1⟩ := (next_less hn).2
      rw [hn] at h
      dsimp only at h
      by_cases hc : c = 93 ∧ plain = false
      · rw [if_pos hc] at h
        by_cases ha : acc = []
        · rw [if_pos ha] at h; cases h
        · rw [if_neg ha] at h; cases h; exact ⟨a1, e1⟩
      · rw [if_neg hc] at h
        cases hg : rangeS t with
        | none =>
          rw [hg] at h
          obtain ⟨a2, e2⟩ := classF_suf f _ _ _ _ h
          exact ⟨a1 ++ a2, by rw [e1, e2, List.append_assoc]⟩
        | some r' =>
          rw [hg] at h
          dsimp only at h
          obtain ⟨a3, e3⟩ := range_is hg
          cases hm : nextS r' with
          | none => rw [hm] at h; cases h
          | some y =>
            obtain ⟨hh, _, r2⟩ := y
            obtain ⟨a4, e4⟩ := (next_less hm).2
            rw [hm] at h
            dsimp only at h
            by_cases hlt : hh < c
            · rw [if_pos hlt] at h; cases h
            · rw [if_neg hlt] at h
              obtain ⟨a2, e2⟩ := classF_suf f _ _ _ _ h
              exact ⟨a1 ++ (a3 ++ (a4 ++ a2)), by rw [e1, e3, e4, e2]; simp⟩
theorem classS_suf {l r : List Nat} {p : Pt} (h : classS l = some (p, r)) : ∃ a, l = a ++ r := by
  unfold classS at h
  split at h
  · cases hc : classF (l.tail.length + 1) l.tail [] with
    | none => rw [hc] at h; cases h
    | some y =>
      rw [hc] at h
      obtain ⟨a, e⟩ := classF_suf _ _ _ y.1 y.2 hc
      cases h
      cases l with
      | nil => exact ⟨a, e⟩
      | cons z l => exact ⟨z :: a, by rw [List.cons_append, ← e]; rfl⟩
  · cases hc : classF (l.length + 1) l [] with
    | none => rw [hc] at h; cases h
    | some y =>
      rw [hc] at h
      obtain ⟨a, e⟩ := classF_suf _ _ _ y.1 y.2 hc
      cases h
      exact ⟨a, e⟩
/-- a class of the document, with its bracket -/
theorem docclass_any (q : Option Addr) (c : Nat) (p t : List Nat) (hp : p = 91 :: t) (hpl : p.length ≤ 1000000) :
    Ct Tryd.prog 16 [.slice q p.length c] [sl 1 (.slice q p.length c) (p.map fN)] fun v H' => ∃ nt q' n' c' ok, ∃ at' : Nat, (match classS t with
      | some x => ok = true ∧ at' = p.length - x.2.length
      | none => ok = false) ∧ v = .tuple #[.agg #[.bool false, .bool nt, .slice q' n' c'], .int .i64 (at' : Int), .bool ok] ∧ H' = [] := by
  have hd1 : p.drop 1 = t := by rw [hp]; rfl
  have hd2 : p.drop 2 = t.tail := by rw [hp]; cases t <;> rfl
  have hlen : p.length = t.length + 1 := by rw [hp]; rfl
  have h1 : p[1]? = t.head? := by rw [hp]; cases t <;> rfl
  by_cases h33 : t.head? = some 33
  · have htl : t.tail.length + 1 = t.length := by
      cases t with
      | nil => cases h33
      | cons a t => rfl
    refine spec_mono (docclass_from q c p hpl (by omega) true 2 (.inl ⟨rfl, by rw [h1, h33], rfl⟩) rfl) ?_
    rintro v H' ⟨nt, q', n', c', ok, at', hv, hm, hH⟩
    refine ⟨nt, q', n', c', ok, at', ?_, hv, hH⟩
    rw [hd2, show p.length - 2 + 1 = t.tail.length + 1 by omega] at hm
    unfold classS
    rw [if_pos h33]
    cases hc : classF (t.tail.length + 1) t.tail [] with
    | none => rw [hc] at hm; exact hm
    | some x => rw [hc] at hm; exact hm
  · refine spec_mono (docclass_from q c p hpl (by omega) false 1 (.inr ⟨rfl, by rw [h1]; exact h33, rfl⟩) rfl) ?_
    rintro v H' ⟨nt, q', n', c', ok, at', hv, hm, hH⟩
    refine ⟨nt, q', n', c', ok, at', ?_, hv, hH⟩
    rw [hd1, show p.length - 1 + 1 = t.length + 1 by omega] at hm
    unfold classS
    rw [if_neg h33]
    cases hc : classF (t.length + 1) t [] with
    | none => rw [hc] at hm; exact hm
    | some x => rw [hc] at hm; exact hm
abbrev Pc := Bool × Bool × Option Addr × Nat × Nat
def fPc (x : Pc) : List Value := [.bool x.1, .bool x.2.1, .slice x.2.2.1 x.2.2.2.1 x.2.2.2.2]
theorem one_fPc (x : Pc) : ∀ u ∈ fPc x, u.oneCell' = true := by simp [fPc, Value.oneCell']
theorem fPc_len (x : Pc) : (fPc x).length = 3 := rfl
def okP (l : List Nat) (ok : Bool) (n : Nat) : Prop := n ≤ l.length ∧ match partsS l with
  | some ps => ok = true ∧ n = ps.length
  | none => ok = false
def PcsR (l : List Nat) (v : Value) (H' : List Ent) : Prop := ∃ ok, ∃ P : List Pc, ∃ q c, okP l ok P.length ∧ v = .tuple #[.slice q P.length c, .bool ok] ∧ H' = [own (.slice q P.length c) 46 3 P.length (flat fPc P)]
theorem okp_no {l : List Nat} (h : partsS l = none) : okP l false 0 := ⟨Nat.zero_le _, by rw [h]⟩
theorem okp_next {l r : List Nat} {ok : Bool} {n : Nat} {p : Pt} (h : partsS l = (partsS r).map (p :: ·)) (hl : r.length < l.length) (hk : okP r ok n) : okP l ok (n + 1) := by
  refine ⟨by have := hk.1; omega, ?_⟩
  have h2 := hk.2
  rw [h]
  cases hp : partsS r with
  | none => rw [hp] at h2; exact h2
  | some ps => rw [hp] at h2; exact ⟨h2.1, by rw [h2.2]; rfl⟩
attribute [local irreducible] box own sl old bptr eptr Qt Opr Run Cod Pst Drn
attribute [local irreducible] partsS cmpB classS nextS pieceS okP
set_option maxRecDepth 100000 in
set_option maxHeartbeats 8000000 in
theorem pieces_any : ∀ (n : Nat) (l : List Nat), l.length ≤ n → l.length ≤ 1000000 → ∀ (q : Option Addr) (c : Nat), Ct Tryd.prog 9 [.slice q l.length c] [sl 1 (.slice q l.length c) (l.map fN)] (PcsR l) := by
  intro n
  induction n with
  | zero =>
    intro l h0 _ q c
    have h1 : l = [] := List.length_eq_zero_iff.1 (by omega)
    subst h1
    have OK : okP [] true 0 := by unfold okP; rw [parts_nil]; exact ⟨Nat.le_refl _, rfl, rfl⟩
    (refine spec_enter Tryd.func9 Tryd.ntmps9 rfl rfl fun Fr => ?_; dsimp only [List.cons_append, List.nil_append, ini, Nat.reduceAdd])
    (repeat' (first | (apply run_qg 1; (focus rfl); (focus exact wt); (focus rfl); (focus (exact qg1))) | (apply run_qg 4; (focus rfl); (focus exact wt); (focus rfl); (focus (first | exact qg4 | exact qs4))) | (apply run_qg 6; (focus rfl); (focus exact wt); (focus rfl); (focus (first | exact qs6 | exact qg6 | exact q_max rfl rfl rfl | exact q_sliceData rfl rfl (by omega) | exact q_sliceDataN rfl rfl | exact q_unsafeStringN rfl rfl rfl | exact q_cap_slice rfl rfl))) | refine cod_seq ?_ | refine cod_region ?_ | refine run_nil ?_ | refine pst_then ?_ | (apply cod_cond_t; (focus rfl)) | refine cod_ret ?_ | refine pst_then_ret ?_))
    exact pst_fin rfl (by exact resa) _ (⟨true, [], none, 0, OK, rfl, rfl⟩) (by exact hsa)
  | succ n ih =>
    intro l hl hlb q c
    have IH : ∀ k, 1 ≤ k → k ≤ l.length → Ct Tryd.prog 9 [.slice (subq q k c 1) (l.length - k) (c - k)] [sl 1 (.slice (subq q k c 1) (l.length - k) (c - k)) ((l.drop k).map fN)] (PcsR (l.drop k)) := fun k h1 h2 => by
      have := ih (l.drop k) (by rw [List.length_drop]; omega) (by rw [List.length_drop]; omega) (subq q k c 1) (c - k)
      rwa [List.length_drop] at this
    unfold PcsR at IH
    rcases get_or l 0 with ⟨y, hy, hlt⟩ | hge
    · have hd := drop_at hy
      rw [List.drop_zero] at hd
      have hd0 : nextS l = nextS (y :: l.drop 1) := congrArg nextS hd
      have hne : l ≠ [] := by intro e; rw [e] at hlt; simp at hlt
      refine spec_mono (R := PcsR l) ?_ fun _ _ h => h
      have NO := fun (h : partsS l = none) => okp_no h
      have YES := fun k (h1 : 1 ≤ k) (h2 : k ≤ l.length) (p : Pt) (h : partsS l = (partsS (l.drop k)).map (p :: ·)) ok m (hk : okP (l.drop k) ok m) => okp_next h (by rw [List.length_drop]; omega) hk
      by_cases h42 : y = 42
      · have hpt : partsS l = (partsS (l.drop 1)).map ((true, false, []) :: ·) := parts_step hne (c := 42) (b := false) (r := l.drop 1) (by rw [hd0, h42, nextS, if_neg (by decide)]) (by unfold pieceS; rw [if_neg (by decide), if_pos rfl])
        clear hd hd0
        (refine spec_enter Tryd.func9 Tryd.ntmps9 rfl rfl fun Fr => ?_; dsimp only [List.cons_append, List.nil_append, ini, Nat.reduceAdd])
        (repeat' (first | (apply run_qg 1; (focus rfl); (focus exact wt); (focus rfl); (focus (exact qg1))) | (apply run_qg 2; (focus rfl); (focus exact wt); (focus rfl); (focus (first | exact qg2 | exact qs2))) | (apply run_qg 3; (focus rfl); (focus exact wt); (focus rfl); (focus (first | exact qg3 | exact qs3))) | (apply run_qg 4; (focus rfl); (focus exact wt); (focus rfl); (focus (first | exact qg4 | exact qs4))) | (apply run_qg 5; (focus rfl); (focus exact wt); (focus rfl); (focus (exact qg5))) | (apply run_qg 6; (focus rfl); (focus exact wt); (focus rfl); (focus (first | exact qs6 | exact qg6 | exact q_max rfl rfl rfl | exact q_sliceData rfl rfl (by omega) | exact q_sliceDataN rfl rfl | exact q_unsafeStringN rfl rfl rfl | exact q_cap_slice rfl rfl))) | refine cod_seq ?_ | refine cod_region ?_ | refine run_nil ?_ | refine pst_then ?_ | (apply cod_cond_t; (focus rfl)) | (apply cod_cond_f; (focus rfl)) | refine cod_block ?_ | refine cod_skip ?_ | refine pst_block ?_ | (apply run_osg 8; (focus rfl); (focus exact wt); (focus rfl); (focus (exact opr_new rfl)); (rintro _ _ ⟨b, rfl, rfl⟩)) | (apply run_ong 9; (focus rfl); (focus exact wt); (focus (exact opr_store_box_agg rfl rfl rfl (by exact pka) rfl rfl rfl (by exact spla))); (rintro _ _ ⟨rfl, rfl⟩)) | (apply run_ong 9; (focus rfl); (focus exact wt); (focus (exact opr_store_box_one rfl rfl rfl rfl (by exact pka) rfl (by exact seta))); (rintro _ _ ⟨rfl, rfl⟩))))
        refine run_qg 12 rfl wt rfl (q_slice_l (i := 1) rfl rfl rfl rfl (by omega)) ?_
        refine run_heap (sl_from_keep (i := 1) pka rfl (by omega)) ?_
        skip
        (refine run_os wt rfl (opr_call_l rfl (IH 1 (by omega) (by omega)) rfl (by exact lpa)) ?_; rintro _ _ ⟨_, ⟨ok, P, qp, cp, hk, rfl, rfl⟩, rfl⟩; dsimp only [List.cons_append, List.nil_append])
        (repeat' (first | (apply run_qg 1; (focus rfl); (focus exact wt); (focus rfl); (focus (exact qg1))) | (apply run_qg 2; (focus rfl); (focus exact wt); (focus rfl); (focus (first | exact qg2 | exact qs2))) | refine cod_seq ?_ | refine cod_region ?_ | refine run_nil ?_ | refine pst_then ?_ | (apply run_osg 10; (focus rfl); (focus exact wt); (focus rfl); (focus (exact opr_buildSlice rfl rfl rfl (by exact blda) rfl rfl (by decide) rfl)); (rintro _ _ ⟨q, rfl, rfl⟩))))
        have hkP : P.length ≤ 1000000 := by unfold okP at hk; have h9 := hk.1; rw [List.length_drop] at h9; omega
        refine run_heap (heap_sl (f := fPc) pka fPc_len rfl) ?_
        refine run_os wt rfl (opr_append (cnt := 0) (f := fPc) (ys := P) rfl rfl rfl pka pka fPc_len one_fPc rfl (by omega) (by unfold maxLen; omega)) ?_
        rintro _ _ ⟨q9, c9, rfl, rfl⟩
        rw [Nat.add_comm 1 P.length]
        have OK := YES 1 (by omega) (by omega) (true, false, []) hpt ok P.length hk
        (repeat' (first | (apply run_qg 1; (focus rfl); (focus exact wt); (focus rfl); (focus (exact qg1))) | refine run_nil ?_ | refine pst_then ?_ | refine cod_ret ?_))
        exact pst_fin rfl (by exact resa) _ (⟨ok, ((true, false, none, 0, 0) : Pc) :: P, q9, c9, OK, rfl, rfl⟩) (by exact hsa)
      · have h42' : ¬ (y : Int) = 42 := by omega
        by_cases h63 : y = 63
        · have hpt : partsS l = (partsS (l.drop 1)).map ((false, true, []) :: ·) := parts_step hne (c := 63) (b := false) (r := l.drop 1) (by rw [hd0, h63, nextS, if_neg (by decide)]) (by unfold pieceS; rw [if_neg (by decide), if_neg (by decide), if_pos rfl])
          clear hd hd0
          (refine spec_enter Tryd.func9 Tryd.ntmps9 rfl rfl fun Fr => ?_; dsimp only [List.cons_append, List.nil_append, ini, Nat.reduceAdd])
          (repeat' (first | (apply run_qg 1; (focus rfl); (focus exact wt); (focus rfl); (focus (exact qg1))) | (apply run_qg 2; (focus rfl); (focus exact wt); (focus rfl); (focus (first | exact qg2 | exact qs2))) | (apply run_qg 3; (focus rfl); (focus exact wt); (focus rfl); (focus (first | exact qg3 | exact qs3))) | (apply run_qg 4; (focus rfl); (focus exact wt); (focus rfl); (focus (first | exact qg4 | exact qs4))) | (apply run_qg 5; (focus rfl); (focus exact wt); (focus rfl); (focus (exact qg5))) | (apply run_qg 6; (focus rfl); (focus exact wt); (focus rfl); (focus (first | exact qs6 | exact qg6 | exact q_max rfl rfl rfl | exact q_sliceData rfl rfl (by omega) | exact q_sliceDataN rfl rfl | exact q_unsafeStringN rfl rfl rfl | exact q_cap_slice rfl rfl))) | refine cod_seq ?_ | refine cod_region ?_ | refine run_nil ?_ | refine pst_then ?_ | (apply cod_cond_t; (focus rfl)) | (apply cod_cond_f; (focus rfl)) | refine cod_block ?_ | refine cod_skip ?_ | refine pst_block ?_ | (apply run_osg 8; (focus rfl); (focus exact wt); (focus rfl); (focus (exact opr_new rfl)); (rintro _ _ ⟨b, rfl, rfl⟩)) | (apply run_ong 9; (focus rfl); (focus exact wt); (focus (exact opr_store_box_agg rfl rfl rfl (by exact pka) rfl rfl rfl (by exact spla))); (rintro _ _ ⟨rfl, rfl⟩)) | (apply run_ong 9; (focus rfl); (focus exact wt); (focus (exact opr_store_box_one rfl rfl rfl rfl (by exact pka) rfl (by exact seta))); (rintro _ _ ⟨rfl, rfl⟩))))
          refine run_qg 12 rfl wt rfl (q_slice_l (i := 1) rfl rfl rfl rfl (by omega)) ?_
          refine run_heap (sl_from_keep (i := 1) pka rfl (by omega)) ?_
          skip
          (refine run_os wt rfl (opr_call_l rfl (IH 1 (by omega) (by omega)) rfl (by exact lpa)) ?_; rintro _ _ ⟨_, ⟨ok, P, qp, cp, hk, rfl, rfl⟩, rfl⟩; dsimp only [List.cons_append, List.nil_append])
          (repeat' (first | (apply run_qg 1; (focus rfl); (focus exact wt); (focus rfl); (focus (exact qg1))) | (apply run_qg 2; (focus rfl); (focus exact wt); (focus rfl); (focus (first | exact qg2 | exact qs2))) | refine cod_seq ?_ | refine cod_region ?_ | refine run_nil ?_ | refine pst_then ?_ | (apply run_osg 10; (focus rfl); (focus exact wt); (focus rfl); (focus (exact opr_buildSlice rfl rfl rfl (by exact blda) rfl rfl (by decide) rfl)); (rintro _ _ ⟨q, rfl, rfl⟩))))
          have hkP : P.length ≤ 1000000 := by unfold okP at hk; have h9 := hk.1; rw [List.length_drop] at h9; omega
          refine run_heap (heap_sl (f := fPc) pka fPc_len rfl) ?_
          refine run_os wt rfl (opr_append (cnt := 0) (f := fPc) (ys := P) rfl rfl rfl pka pka fPc_len one_fPc rfl (by omega) (by unfold maxLen; omega)) ?_
          rintro _ _ ⟨q9, c9, rfl, rfl⟩
          rw [Nat.add_comm 1 P.length]
          have OK := YES 1 (by omega) (by omega) (false, true, []) hpt ok P.length hk
          (repeat' (first | (apply run_qg 1; (focus rfl); (focus exact wt); (focus rfl); (focus (exact qg1))) | refine run_nil ?_ | refine pst_then ?_ | refine cod_ret ?_))
          exact pst_fin rfl (by exact resa) _ (⟨ok, ((false, true, none, 0, 0) : Pc) :: P, q9, c9, OK, rfl, rfl⟩) (by exact hsa)
        · have h63' : ¬ (y : Int) = 63 := by omega
          by_cases h92 : y = 92
          · rcases get_or l 1 with ⟨d, hd1, hlt1⟩ | hge1
            · have hd2 := drop_at hd1
              have hpt : partsS l = (partsS (l.drop 2)).map (one d :: ·) := parts_step hne (c := d) (b := true) (r := l.drop 2) (by rw [hd0, h92, hd2, nextS, if_pos rfl]; rfl) (by unfold pieceS; rw [if_pos rfl])
              clear hd hd0 hd2
              (refine spec_enter Tryd.func9 Tryd.ntmps9 rfl rfl fun Fr => ?_; dsimp only [List.cons_append, List.nil_append, ini, Nat.reduceAdd])
              (repeat' (first | (apply run_qg 1; (focus rfl); (focus exact wt); (focus rfl); (focus (exact qg1))) | (apply run_qg 2; (focus rfl); (focus exact wt); (focus rfl); (focus (first | exact qg2 | exact qs2))) | (apply run_qg 3; (focus rfl); (focus exact wt); (focus rfl); (focus (first | exact qg3 | exact qs3))) | (apply run_qg 4; (focus rfl); (focus exact wt); (focus rfl); (focus (first | exact qg4 | exact qs4))) | (apply run_qg 5; (focus rfl); (focus exact wt); (focus rfl); (focus (exact qg5))) | (apply run_qg 6; (focus rfl); (focus exact wt); (focus rfl); (focus (first | exact qs6 | exact qg6 | exact q_max rfl rfl rfl | exact q_sliceData rfl rfl (by omega) | exact q_sliceDataN rfl rfl | exact q_unsafeStringN rfl rfl rfl | exact q_cap_slice rfl rfl))) | refine cod_seq ?_ | refine cod_region ?_ | refine run_nil ?_ | refine pst_then ?_ | (apply cod_cond_t; (focus rfl)) | (apply cod_cond_f; (focus rfl)) | refine cod_block ?_ | refine cod_skip ?_ | (apply run_osg 8; (focus rfl); (focus exact wt); (focus rfl); (focus (exact opr_new rfl)); (rintro _ _ ⟨b, rfl, rfl⟩)) | (apply run_ong 9; (focus rfl); (focus exact wt); (focus (exact opr_store_box_agg rfl rfl rfl (by exact pka) rfl rfl rfl (by exact spla))); (rintro _ _ ⟨rfl, rfl⟩))))
              (refine cod_drawn_ks (Hq := [_]) [1] [] rfl (by kernel_rfl) (by simp only [List.length_cons, List.length_nil, Nat.reduceAdd]; rfl) ?_)
              (repeat' (first | (apply drnK_take 1; (focus rfl); (focus rfl); (focus exact wt); (focus (decide +kernel)); (focus exact hsq); (focus rfl); (focus (exact qg1))) | (apply drnK_take 2; (focus rfl); (focus rfl); (focus exact wt); (focus (decide +kernel)); (focus exact hsq); (focus rfl); (focus (first | exact qg2 | exact qs2))) | (apply drnK_take 3; (focus rfl); (focus rfl); (focus exact wt); (focus (decide +kernel)); (focus exact hsq); (focus rfl); (focus (first | exact qg3 | exact qs3))) | (apply drnK_done; (focus (decide +kernel))) | (apply drnK_skip; (focus rfl)) | (apply drnK_wrap; (focus rfl))))
              (refine drnK_at 6 ?_; refine drnK_take _ rfl rfl wt (by decide +kernel) hsq rfl ((q_arr (cnt := 2) (e := 3) (by kernel_rfl) rfl rfl rfl blda)) ?_)
              (refine drnK_at 7 ?_; (first | refine drnK_ones _ (by rfl) (by rfl) (by kernel_rfl) wt (by rfl) (by exact opr_buildSlice rfl rfl rfl (by exact blda) rfl rfl (by decide) rfl) ?_ | refine drnK_onen _ (by rfl) (by rfl) (by kernel_rfl) wt (by exact opr_buildSlice rfl rfl rfl (by exact blda) rfl rfl (by decide) rfl) ?_); rintro _ _ ⟨q7, rfl, rfl⟩; refine ⟨(by first | exact fun h => absurd h (by decide) | exact fun _ => hsq), ?_⟩; (try dsimp only [List.cons_append, List.nil_append]))
              (repeat' (first | (apply run_qg 1; (focus rfl); (focus exact wt); (focus rfl); (focus (exact qg1))) | refine cod_seq ?_ | refine cod_region ?_ | refine pst_then ?_ | refine pst_block ?_ | (apply drnK_take 1; (focus rfl); (focus rfl); (focus exact wt); (focus (decide +kernel)); (focus exact hsq); (focus rfl); (focus (exact qg1))) | (apply drnK_take 3; (focus rfl); (focus rfl); (focus exact wt); (focus (decide +kernel)); (focus exact hsq); (focus rfl); (focus (first | exact qg3 | exact qs3))) | (apply drnK_onen 9; (focus rfl); (focus rfl); (focus (decide +kernel)); (focus exact wt); (focus (exact opr_store_box_one rfl rfl rfl rfl (by exact pka) rfl (by exact seta))); (rintro _ _ ⟨rfl, rfl⟩; refine ⟨(by first | exact fun h => absurd h (by decide) | exact fun _ => hsq), ?_⟩)) | (apply drnK_end; (focus (decide +kernel)))))
              refine run_qg 12 rfl wt rfl (q_slice_l (i := 2) rfl rfl rfl rfl (by omega)) ?_
              refine run_heap (sl_from_keep (i := 2) pka rfl (by omega)) ?_
              skip
              (refine run_os wt rfl (opr_call_l rfl (IH 2 (by omega) (by omega)) rfl (by exact lpa)) ?_; rintro _ _ ⟨_, ⟨ok, P, qp, cp, hk, rfl, rfl⟩, rfl⟩; dsimp only [List.cons_append, List.nil_append])
              (repeat' (first | (apply run_qg 1; (focus rfl); (focus exact wt); (focus rfl); (focus (exact qg1))) | (apply run_qg 2; (focus rfl); (focus exact wt); (focus rfl); (focus (first | exact qg2 | exact qs2))) | refine cod_seq ?_ | refine cod_region ?_ | refine run_nil ?_ | refine pst_then ?_ | (apply run_osg 10; (focus rfl); (focus exact wt); (focus rfl); (focus (exact opr_buildSlice rfl rfl rfl (by exact blda) rfl rfl (by decide) rfl)); (rintro _ _ ⟨q, rfl, rfl⟩))))
              have hkP : P.length ≤ 1000000 := by unfold okP at hk; have h9 := hk.1; rw [List.length_drop] at h9; omega
              refine run_heap (heap_sl (f := fPc) pka fPc_len rfl) ?_
              refine run_os wt rfl (opr_append (cnt := 0) (f := fPc) (ys := P) rfl rfl rfl pka pka fPc_len one_fPc rfl (by omega) (by unfold maxLen; omega)) ?_
              rintro _ _ ⟨q9, c9, rfl, rfl⟩
              rw [Nat.add_comm 1 P.length]
              have OK := YES 2 (by omega) (by omega) (one d) hpt ok P.length hk
              (repeat' (first | (apply run_qg 1; (focus rfl); (focus exact wt); (focus rfl); (focus (exact qg1))) | refine run_nil ?_ | refine pst_then ?_ | refine cod_ret ?_))
              exact pst_fin rfl (by exact resa) _ (⟨ok, ((false, false, q7, 1, 1) : Pc) :: P, q9, c9, OK, rfl, rfl⟩) (by exact hsa)
            · have hno := NO (parts_none hne (by rw [hd0, h92, List.drop_of_length_le (by omega), nextS, if_pos rfl]; rfl))
              clear hd hd0
              (refine spec_enter Tryd.func9 Tryd.ntmps9 rfl rfl fun Fr => ?_; dsimp only [List.cons_append, List.nil_append, ini, Nat.reduceAdd])
              (repeat' (first | (apply run_qg 1; (focus rfl); (focus exact wt); (focus rfl); (focus (exact qg1))) | (apply run_qg 2; (focus rfl); (focus exact wt); (focus rfl); (focus (first | exact qg2 | exact qs2))) | (apply run_qg 3; (focus rfl); (focus exact wt); (focus rfl); (focus (first | exact qg3 | exact qs3))) | (apply run_qg 4; (focus rfl); (focus exact wt); (focus rfl); (focus (first | exact qg4 | exact qs4))) | (apply run_qg 5; (focus rfl); (focus exact wt); (focus rfl); (focus (exact qg5))) | (apply run_qg 6; (focus rfl); (focus exact wt); (focus rfl); (focus (first | exact qs6 | exact qg6 | exact q_max rfl rfl rfl | exact q_sliceData rfl rfl (by omega) | exact q_sliceDataN rfl rfl | exact q_unsafeStringN rfl rfl rfl | exact q_cap_slice rfl rfl))) | refine cod_seq ?_ | refine cod_region ?_ | refine run_nil ?_ | refine pst_then ?_ | (apply cod_cond_t; (focus rfl)) | (apply cod_cond_f; (focus rfl)) | refine cod_block ?_ | refine cod_ret ?_ | refine cod_skip ?_ | refine pst_block_ret ?_ | refine pst_then_ret ?_ | (apply run_osg 8; (focus rfl); (focus exact wt); (focus rfl); (focus (exact opr_new rfl)); (rintro _ _ ⟨b, rfl, rfl⟩)) | (apply run_ong 9; (focus rfl); (focus exact wt); (focus (exact opr_store_box_agg rfl rfl rfl (by exact pka) rfl rfl rfl (by exact spla))); (rintro _ _ ⟨rfl, rfl⟩))))
              exact pst_fin rfl (by exact resa) _ (⟨false, [], none, 0, hno, rfl, rfl⟩) (by exact hsa)
          · have h92' : ¬ (y : Int) = 92 := by omega
            have hnx : nextS l = some (y, false, l.drop 1) := by rw [hd0, nextS, if_neg h92]
            by_cases h91 : y = 91
            · have C0 := docclass_any q c l (l.drop 1) (by rw [← h91]; exact hd) hlb
              cases hcs : classS (l.drop 1) with
              | none =>
                have hno := NO (parts_no hne hnx (by unfold pieceS; rw [if_neg (by decide), if_neg h42, if_neg h63, if_pos h91]; exact hcs))
                rw [hcs] at C0
                dsimp only at C0
                clear hd hd0
                (refine spec_enter Tryd.func9 Tryd.ntmps9 rfl rfl fun Fr => ?_; dsimp only [List.cons_append, List.nil_append, ini, Nat.reduceAdd])
                (repeat' (first | (apply run_qg 1; (focus rfl); (focus exact wt); (focus rfl); (focus (exact qg1))) | (apply run_qg 2; (focus rfl); (focus exact wt); (focus rfl); (focus (first | exact qg2 | exact qs2))) | (apply run_qg 3; (focus rfl); (focus exact wt); (focus rfl); (focus (first | exact qg3 | exact qs3))) | (apply run_qg 4; (focus rfl); (focus exact wt); (focus rfl); (focus (first | exact qg4 | exact qs4))) | (apply run_qg 5; (focus rfl); (focus exact wt); (focus rfl); (focus (exact qg5))) | (apply run_qg 6; (focus rfl); (focus exact wt); (focus rfl); (focus (first | exact qs6 | exact qg6 | exact q_max rfl rfl rfl | exact q_sliceData rfl rfl (by omega) | exact q_sliceDataN rfl rfl | exact q_unsafeStringN rfl rfl rfl | exact q_cap_slice rfl rfl))) | refine cod_seq ?_ | refine cod_region ?_ | refine run_nil ?_ | refine pst_then ?_ | (apply cod_cond_t; (focus rfl)) | (apply cod_cond_f; (focus rfl)) | refine cod_block ?_ | refine cod_skip ?_ | (apply run_osg 8; (focus rfl); (focus exact wt); (focus rfl); (focus (exact opr_new rfl)); (rintro _ _ ⟨b, rfl, rfl⟩)) | (apply run_ong 9; (focus rfl); (focus exact wt); (focus (exact opr_store_box_agg rfl rfl rfl (by exact pka) rfl rfl rfl (by exact spla))); (rintro _ _ ⟨rfl, rfl⟩))))
                (refine run_os wt rfl (opr_call_l rfl (C0) rfl (by exact lpa)) ?_; rintro _ _ ⟨_, ⟨nt, q6, n6, c6, ok6, at6, rfl, rfl, rfl⟩, rfl⟩; dsimp only [List.cons_append, List.nil_append])
                (repeat' (first | (apply run_qg 1; (focus rfl); (focus exact wt); (focus rfl); (focus (exact qg1))) | (apply run_qg 4; (focus rfl); (focus exact wt); (focus rfl); (focus (first | exact qg4 | exact qs4))) | refine cod_seq ?_ | refine cod_region ?_ | refine run_nil ?_ | refine pst_then ?_ | (apply cod_cond_t; (focus rfl)) | refine cod_ret ?_ | refine pst_block_ret ?_ | refine pst_then_ret ?_ | (apply run_ong 9; (focus rfl); (focus exact wt); (focus (exact opr_store_box_agg rfl rfl rfl (by exact pka) rfl rfl rfl (by exact spla))); (rintro _ _ ⟨rfl, rfl⟩))))
                exact pst_fin rfl (by exact resa) _ (⟨false, [], none, 0, hno, rfl, rfl⟩) (by exact hsa)
              | some x =>
                obtain ⟨pt, r⟩ := x
                obtain ⟨a, ha⟩ := classS_suf hcs
                have hrl := classS_less hcs
                rw [List.length_drop] at hrl
                have hdr : l.drop (l.length - r.length) = r := by
                  have h7 : l = y :: (a ++ r) := by rw [← ha]; exact hd
                  rw [h7]
                  have h8 : (y :: (a ++ r)).length - r.length = a.length + 1 := by simp only [List.length_cons, List.length_append]; omega
                  rw [h8]
                  exact List.drop_left
                have hpt0 : partsS l = (partsS r).map (pt :: ·) := parts_step hne hnx (by unfold pieceS; rw [if_neg (by decide), if_neg h42, if_neg h63, if_pos h91]; exact hcs)
                have hpt : partsS l = (partsS (l.drop (l.length - r.length))).map (pt :: ·) := by rw [hdr]; exact hpt0
                rw [hcs] at C0
                dsimp only at C0
                clear hd hd0 ha hdr hpt0
                generalize hK : l.length - r.length = K at *
                (refine spec_enter Tryd.func9 Tryd.ntmps9 rfl rfl fun Fr => ?_; dsimp only [List.cons_append, List.nil_append, ini, Nat.reduceAdd])
                (repeat' (first | (apply run_qg 1; (focus rfl); (focus exact wt); (focus rfl); (focus (exact qg1))) | (apply run_qg 2; (focus rfl); (focus exact wt); (focus rfl); (focus (first | exact qg2 | exact qs2))) | (apply run_qg 3; (focus rfl); (focus exact wt); (focus rfl); (focus (first | exact qg3 | exact qs3))) | (apply run_qg 4; (focus rfl); (focus exact wt); (focus rfl); (focus (first | exact qg4 | exact qs4))) | (apply run_qg 5; (focus rfl); (focus exact wt); (focus rfl); (focus (exact qg5))) | (apply run_qg 6; (focus rfl); (focus exact wt); (focus rfl); (focus (first | exact qs6 | exact qg6 | exact q_max rfl rfl rfl | exact q_sliceData rfl rfl (by omega) | exact q_sliceDataN rfl rfl | exact q_unsafeStringN rfl rfl rfl | exact q_cap_slice rfl rfl))) | refine cod_seq ?_ | refine cod_region ?_ | refine run_nil ?_ | refine pst_then ?_ | (apply cod_cond_t; (focus rfl)) | (apply cod_cond_f; (focus rfl)) | refine cod_block ?_ | refine cod_skip ?_ | (apply run_osg 8; (focus rfl); (focus exact wt); (focus rfl); (focus (exact opr_new rfl)); (rintro _ _ ⟨b, rfl, rfl⟩)) | (apply run_ong 9; (focus rfl); (focus exact wt); (focus (exact opr_store_box_agg rfl rfl rfl (by exact pka) rfl rfl rfl (by exact spla))); (rintro _ _ ⟨rfl, rfl⟩))))
                (refine run_os wt rfl (opr_call_l rfl (C0) rfl (by exact lpa)) ?_; rintro _ _ ⟨_, ⟨nt, q6, n6, c6, ok6, at6, ⟨rfl, rfl⟩, rfl, rfl⟩, rfl⟩; dsimp only [List.cons_append, List.nil_append])
                (repeat' (first | (apply run_qg 1; (focus rfl); (focus exact wt); (focus rfl); (focus (exact qg1))) | (apply run_qg 4; (focus rfl); (focus exact wt); (focus rfl); (focus (first | exact qg4 | exact qs4))) | refine cod_seq ?_ | refine cod_region ?_ | refine run_nil ?_ | refine pst_then ?_ | (apply cod_cond_f; (focus rfl)) | refine cod_skip ?_ | refine pst_block ?_ | (apply run_ong 9; (focus rfl); (focus exact wt); (focus (exact opr_store_box_agg rfl rfl rfl (by exact pka) rfl rfl rfl (by exact spla))); (rintro _ _ ⟨rfl, rfl⟩))))
                refine run_qg 12 rfl wt rfl (q_slice_l (i := at6) rfl rfl rfl rfl (by omega)) ?_
                refine run_heap (sl_from_keep (i := at6) pka rfl (by omega)) ?_
                skip
                (refine run_os wt rfl (opr_call_l rfl (IH at6 (by omega) (by omega)) rfl (by exact lpa)) ?_; rintro _ _ ⟨_, ⟨ok, P, qp, cp, hk, rfl, rfl⟩, rfl⟩; dsimp only [List.cons_append, List.nil_append])
                (repeat' (first | (apply run_qg 1; (focus rfl); (focus exact wt); (focus rfl); (focus (exact qg1))) | (apply run_qg 2; (focus rfl); (focus exact wt); (focus rfl); (focus (first | exact qg2 | exact qs2))) | refine cod_seq ?_ | refine cod_region ?_ | refine run_nil ?_ | refine pst_then ?_ | (apply run_osg 10; (focus rfl); (focus exact wt); (focus rfl); (focus (exact opr_buildSlice rfl rfl rfl (by exact blda) rfl rfl (by decide) rfl)); (rintro _ _ ⟨q, rfl, rfl⟩))))
                have hkP : P.length ≤ 1000000 := by unfold okP at hk; have h9 := hk.1; rw [List.length_drop] at h9; omega
                refine run_heap (heap_sl (f := fPc) pka fPc_len rfl) ?_
                refine run_os wt rfl (opr_append (cnt := 0) (f := fPc) (ys := P) rfl rfl rfl pka pka fPc_len one_fPc rfl (by omega) (by unfold maxLen; omega)) ?_
                rintro _ _ ⟨q9, c9, rfl, rfl⟩
                rw [Nat.add_comm 1 P.length]
                have OK := YES at6 (by omega) (by omega) pt hpt ok P.length hk
                (repeat' (first | (apply run_qg 1; (focus rfl); (focus exact wt); (focus rfl); (focus (exact qg1))) | refine run_nil ?_ | refine pst_then ?_ | refine cod_ret ?_))
                exact pst_fin rfl (by exact resa) _ (⟨ok, ((false, nt, q6, n6, c6) : Pc) :: P, q9, c9, OK, rfl, rfl⟩) (by exact hsa)
            · have h91' : ¬ (y : Int) = 91 := by omega
              have hpt : partsS l = (partsS (l.drop 1)).map (one y :: ·) := parts_step hne hnx (by unfold pieceS; rw [if_neg (by decide), if_neg h42, if_neg h63, if_neg h91])
              clear hd hd0
              (refine spec_enter Tryd.func9 Tryd.ntmps9 rfl rfl fun Fr => ?_; dsimp only [List.cons_append, List.nil_append, ini, Nat.reduceAdd])
              (repeat' (first | (apply run_qg 1; (focus rfl); (focus exact wt); (focus rfl); (focus (exact qg1))) | (apply run_qg 2; (focus rfl); (focus exact wt); (focus rfl); (focus (first | exact qg2 | exact qs2))) | (apply run_qg 3; (focus rfl); (focus exact wt); (focus rfl); (focus (first | exact qg3 | exact qs3))) | (apply run_qg 4; (focus rfl); (focus exact wt); (focus rfl); (focus (first | exact qg4 | exact qs4))) | (apply run_qg 5; (focus rfl); (focus exact wt); (focus rfl); (focus (exact qg5))) | (apply run_qg 6; (focus rfl); (focus exact wt); (focus rfl); (focus (first | exact qs6 | exact qg6 | exact q_max rfl rfl rfl | exact q_sliceData rfl rfl (by omega) | exact q_sliceDataN rfl rfl | exact q_unsafeStringN rfl rfl rfl | exact q_cap_slice rfl rfl))) | refine cod_seq ?_ | refine cod_region ?_ | refine run_nil ?_ | refine pst_then ?_ | (apply cod_cond_f; (focus rfl)) | refine cod_block ?_ | refine cod_skip ?_ | (apply run_osg 8; (focus rfl); (focus exact wt); (focus rfl); (focus (exact opr_new rfl)); (rintro _ _ ⟨b, rfl, rfl⟩)) | (apply run_ong 9; (focus rfl); (focus exact wt); (focus (exact opr_store_box_agg rfl rfl rfl (by exact pka) rfl rfl rfl (by exact spla))); (rintro _ _ ⟨rfl, rfl⟩))))
              (refine cod_drawn_ks (Hq := [_]) [1] [] rfl (by kernel_rfl) (by simp only [List.length_cons, List.length_nil, Nat.reduceAdd]; rfl) ?_)
              (repeat' (first | (apply drnK_take 1; (focus rfl); (focus rfl); (focus exact wt); (focus (decide +kernel)); (focus exact hsq); (focus rfl); (focus (exact qg1))) | (apply drnK_take 2; (focus rfl); (focus rfl); (focus exact wt); (focus (decide +kernel)); (focus exact hsq); (focus rfl); (focus (first | exact qg2 | exact qs2))) | (apply drnK_take 3; (focus rfl); (focus rfl); (focus exact wt); (focus (decide +kernel)); (focus exact hsq); (focus rfl); (focus (first | exact qg3 | exact qs3))) | (apply drnK_done; (focus (decide +kernel))) | (apply drnK_skip; (focus rfl)) | (apply drnK_wrap; (focus rfl))))
              (refine drnK_at 6 ?_; refine drnK_take _ rfl rfl wt (by decide +kernel) hsq rfl ((q_arr (cnt := 2) (e := 3) (by kernel_rfl) rfl rfl rfl blda)) ?_)
              (refine drnK_at 7 ?_; (first | refine drnK_ones _ (by rfl) (by rfl) (by kernel_rfl) wt (by rfl) (by exact opr_buildSlice rfl rfl rfl (by exact blda) rfl rfl (by decide) rfl) ?_ | refine drnK_onen _ (by rfl) (by rfl) (by kernel_rfl) wt (by exact opr_buildSlice rfl rfl rfl (by exact blda) rfl rfl (by decide) rfl) ?_); rintro _ _ ⟨q7, rfl, rfl⟩; refine ⟨(by first | exact fun h => absurd h (by decide) | exact fun _ => hsq), ?_⟩; (try dsimp only [List.cons_append, List.nil_append]))
              (repeat' (first | (apply run_qg 1; (focus rfl); (focus exact wt); (focus rfl); (focus (exact qg1))) | refine cod_seq ?_ | refine cod_region ?_ | refine pst_then ?_ | refine pst_block ?_ | (apply drnK_take 3; (focus rfl); (focus rfl); (focus exact wt); (focus (decide +kernel)); (focus exact hsq); (focus rfl); (focus (first | exact qg3 | exact qs3))) | (apply drnK_onen 9; (focus rfl); (focus rfl); (focus (decide +kernel)); (focus exact wt); (focus (exact opr_store_box_one rfl rfl rfl rfl (by exact pka) rfl (by exact seta))); (rintro _ _ ⟨rfl, rfl⟩; refine ⟨(by first | exact fun h => absurd h (by decide) | exact fun _ => hsq), ?_⟩)) | (apply drnK_end; (focus (decide +kernel)))))
              refine run_qg 12 rfl wt rfl (q_slice_l (i := 1) rfl rfl rfl rfl (by omega)) ?_
              refine run_heap (sl_from_keep (i := 1) pka rfl (by omega)) ?_
              skip
              (refine run_os wt rfl (opr_call_l rfl (IH 1 (by omega) (by omega)) rfl (by exact lpa)) ?_; rintro _ _ ⟨_, ⟨ok, P, qp, cp, hk, rfl, rfl⟩, rfl⟩; dsimp only [List.cons_append, List.nil_append])
              (repeat' (first | (apply run_qg 1; (focus rfl); (focus exact wt); (focus rfl); (focus (exact qg1))) | (apply run_qg 2; (focus rfl); (focus exact wt); (focus rfl); (focus (first | exact qg2 | exact qs2))) | refine cod_seq ?_ | refine cod_region ?_ | refine run_nil ?_ | refine pst_then ?_ | (apply run_osg 10; (focus rfl); (focus exact wt); (focus rfl); (focus (exact opr_buildSlice rfl rfl rfl (by exact blda) rfl rfl (by decide) rfl)); (rintro _ _ ⟨q, rfl, rfl⟩))))
              have hkP : P.length ≤ 1000000 := by unfold okP at hk; have h9 := hk.1; rw [List.length_drop] at h9; omega
              refine run_heap (heap_sl (f := fPc) pka fPc_len rfl) ?_
              refine run_os wt rfl (opr_append (cnt := 0) (f := fPc) (ys := P) rfl rfl rfl pka pka fPc_len one_fPc rfl (by omega) (by unfold maxLen; omega)) ?_
              rintro _ _ ⟨q9, c9, rfl, rfl⟩
              rw [Nat.add_comm 1 P.length]
              have OK := YES 1 (by omega) (by omega) (one y) hpt ok P.length hk
              (repeat' (first | (apply run_qg 1; (focus rfl); (focus exact wt); (focus rfl); (focus (exact qg1))) | refine run_nil ?_ | refine pst_then ?_ | refine cod_ret ?_))
              exact pst_fin rfl (by exact resa) _ (⟨ok, ((false, false, q7, 1, 1) : Pc) :: P, q9, c9, OK, rfl, rfl⟩) (by exact hsa)
    · have h1 : l = [] := List.length_eq_zero_iff.1 (by omega)
      subst h1
      have OK : okP [] true 0 := by unfold okP; rw [parts_nil]; exact ⟨Nat.le_refl _, rfl, rfl⟩
      (refine spec_enter Tryd.func9 Tryd.ntmps9 rfl rfl fun Fr => ?_; dsimp only [List.cons_append, List.nil_append, ini, Nat.reduceAdd])
      (repeat' (first | (apply run_qg 1; (focus rfl); (focus exact wt); (focus rfl); (focus (exact qg1))) | (apply run_qg 4; (focus rfl); (focus exact wt); (focus rfl); (focus (first | exact qg4 | exact qs4))) | (apply run_qg 6; (focus rfl); (focus exact wt); (focus rfl); (focus (first | exact qs6 | exact qg6 | exact q_max rfl rfl rfl | exact q_sliceData rfl rfl (by omega) | exact q_sliceDataN rfl rfl | exact q_unsafeStringN rfl rfl rfl | exact q_cap_slice rfl rfl))) | refine cod_seq ?_ | refine cod_region ?_ | refine run_nil ?_ | refine pst_then ?_ | (apply cod_cond_t; (focus rfl)) | refine cod_ret ?_ | refine pst_then_ret ?_))
      exact pst_fin rfl (by exact resa) _ (⟨true, [], none, 0, OK, rfl, rfl⟩) (by exact hsa)
end Go.Proofs.YtcbpeampjhegcaaDoor.glob
