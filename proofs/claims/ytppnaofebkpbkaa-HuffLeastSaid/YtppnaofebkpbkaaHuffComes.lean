/-
  The document's Freq and Comes: the walks; what they answer. slices.Clone of ints.
-/
import Derived.Test.YtppnaofebkpbkaaHuffOk
import Derived.Test.YtppnaofebkpbkaaSlRow2
namespace Go.Proofs.Ytppnaofebkpbkaa.huff
open Go.RowKit kit sl Go.Proofs.Ytppnaofebkpbkaa.pm
set_option linter.unusedVariables false
/-- f put into a list that falls, behind all that are as great -/
def insD (f : Int) : List Int → List Int
  | [] => [f]
  | x :: l => if f ≤ x then x :: insD f l else f :: x :: l
def ahead (f : Int) : List Int → Nat
  | [] => 0
  | x :: l => if f ≤ x then ahead f l + 1 else 0
theorem ahead_le (f : Int) : ∀ l, ahead f l ≤ l.length
  | [] => Nat.le_refl _
  | x :: l => by
    have := ahead_le f l
    rw [ahead, List.length_cons]
    split <;> omega
theorem ins_at (f : Int) : ∀ l, insD f l = l.take (ahead f l) ++ f :: l.drop (ahead f l)
  | [] => rfl
  | x :: l => by
    rw [insD, ahead]
    split
    · rw [ins_at f l, List.take_succ_cons, List.drop_succ_cons, List.cons_append]
    · rfl
theorem ahead_in (f : Int) : ∀ (l : List Int) (i : Nat), i < ahead f l → ∃ x, l[i]? = some x ∧ f ≤ x
  | [], i, h => absurd h (Nat.not_lt_zero _)
  | x :: l, i, h => by
    rw [ahead] at h
    split at h
    · next hx =>
      cases i with
      | zero => exact ⟨x, rfl, hx⟩
      | succ i =>
        obtain ⟨y, h1, h2⟩ := ahead_in f l i (by omega)
        exact ⟨y, by rw [List.getElem?_cons_succ]; exact h1, h2⟩
    · exact absurd h (Nat.not_lt_zero _)
theorem ahead_out (f : Int) : ∀ (l : List Int) (x : Int), l[ahead f l]? = some x → x < f
  | [], x, h => by cases h
  | y :: l, x, h => by
    rw [ahead] at h
    split at h
    · rw [List.getElem?_cons_succ] at h
      exact ahead_out f l x h
    · next hy =>
      cases h
      omega
theorem insD_perm (f : Int) (l : List Int) : (insD f l).Perm (f :: l) := by
  rw [ins_at]
  refine List.perm_middle.trans ?_
  rw [List.take_append_drop]
theorem insD_len (f : Int) (l : List Int) : (insD f l).length = l.length + 1 := (insD_perm f l).length_eq
def Fall (l : List Int) : Prop := l.Pairwise fun a b => b ≤ a
theorem insD_fall (f : Int) : ∀ l, Fall l → Fall (insD f l)
  | [], _ => List.pairwise_singleton _ _
  | x :: l, h => by
    obtain ⟨h1, h2⟩ := List.pairwise_cons.1 h
    rw [insD]
    split
    · next hx =>
      refine List.pairwise_cons.2 ⟨fun y hy => ?_, insD_fall f l h2⟩
      rcases List.mem_cons.1 ((insD_perm f l).mem_iff.1 hy) with e | hy
      · rw [e]; exact hx
      · exact h1 y hy
    · next hx =>
      refine List.pairwise_cons.2 ⟨fun y hy => ?_, h⟩
      rcases List.mem_cons.1 hy with e | hy
      · rw [e]; omega
      · have := h1 y hy
        omega
def comes (F : List Int) : Nat → List Int
  | 0 => []
  | n + 1 => if wF F n = 0 then comes F n else insD (wF F n) (comes F n)
theorem comes_len (F : List Int) : ∀ n, (comes F n).length ≤ n
  | 0 => Nat.le_refl _
  | n + 1 => by
    have := comes_len F n
    rw [comes]
    split
    · omega
    · rw [insD_len]; omega
theorem comes_fall (F : List Int) : ∀ n, Fall (comes F n)
  | 0 => List.Pairwise.nil
  | n + 1 => by
    have := comes_fall F n
    rw [comes]
    split
    · exact this
    · exact insD_fall _ _ this
theorem comes_perm {F : List Int} (h : ∀ i, 0 ≤ wF F i) : ∀ n, (comes F n).Perm ((posF F n).map (wF F))
  | 0 => List.Perm.nil
  | n + 1 => by
    have ih := comes_perm h n
    have h0 := h n
    rw [comes]
    split
    · next e =>
      rw [pos_next_f (by omega)]
      exact ih
    · next e =>
      rw [pos_next_t (by omega), List.map_append]
      exact (insD_perm _ _).trans ((ih.cons _).trans (List.perm_append_singleton _ _).symm)
theorem wF_nonneg {F : List Int} (h : ∀ f ∈ F, 0 ≤ f) (i : Nat) : 0 ≤ wF F i := by
  unfold wF
  rw [List.getD_eq_getElem?_getD]
  cases hx : F[i]? with
  | none => exact Int.le_refl _
  | some x => exact h x (List.mem_of_getElem? hx)
theorem flat_fI_len (l : List Int) : (flat fI l).length = l.length := by
  have := flat_len fI 1 (fun _ => rfl) l
  omega
theorem flat_take (l : List Int) (i : Nat) : (flat fI l).take i = flat fI (l.take i) := by
  rcases Nat.lt_or_ge i l.length with h | h
  · have e : flat fI l = flat fI (l.take i) ++ flat fI (l.drop i) := by rw [← flat_appL, List.take_append_drop]
    rw [e]
    exact List.take_left' (by rw [flat_fI_len, List.length_take]; omega)
  · rw [List.take_of_length_le (by rw [flat_fI_len]; omega), List.take_of_length_le h]
theorem flat_drop (l : List Int) (i : Nat) : (flat fI l).drop i = flat fI (l.drop i) := by
  rcases Nat.lt_or_ge i l.length with h | h
  · have e : flat fI l = flat fI (l.take i) ++ flat fI (l.drop i) := by rw [← flat_appL, List.take_append_drop]
    rw [e]
    exact List.drop_left' (by rw [flat_fI_len, List.length_take]; omega)
  · rw [List.drop_eq_nil_of_le (by rw [flat_fI_len]; omega), List.drop_eq_nil_of_le h]
    rfl
theorem one_flatI (l : List Int) : ∀ v ∈ flat fI l, v.oneCell' = true := by
  intro u hu
  unfold flat at hu
  obtain ⟨a, ha, hul⟩ := List.mem_flatten.1 hu
  obtain ⟨y, _, rfl⟩ := List.mem_map.1 ha
  rw [List.mem_singleton.1 hul]
  rfl
/-- the row after 'copy(out[i+1:], out[i:])' -/
theorem moved {raw : List Value} {l : List Int} {i k m c : Nat} (h : raw.take (m * 1) = flat fI (l ++ [0])) (hm : m = l.length + 1) (hi : i ≤ l.length) (hk : k = l.length - i) (hc : m ≤ c) (hl : raw.length = c * 1) :
    (raw.drop (i * 1)).take (k * 1) = flat fI (l.drop i) ∧ (raw.take ((i + 1) * 1) ++ flat fI (l.drop i) ++ raw.drop ((i + 1) * 1 + k * 1)).take (m * 1) = flat fI ((l ++ [0]).take (i + 1) ++ l.drop i) := by
  subst hm hk
  simp only [Nat.mul_one] at *
  constructor
  · have e := congrArg (fun r => (r.drop i).take (l.length - i)) h
    rw [List.drop_take, List.take_take, Nat.min_eq_left (by omega), flat_drop, flat_take, List.drop_append_of_le_length hi, List.take_left' (by rw [List.length_drop])] at e
    exact e
  · have e : raw.take (i + 1) = flat fI ((l ++ [0]).take (i + 1)) := by
      rw [← flat_take, ← h, List.take_take, Nat.min_eq_left (by omega)]
    rw [e, List.take_left' (by rw [List.length_append, flat_fI_len, flat_fI_len, List.length_take, List.length_drop, List.length_append, List.length_singleton]; omega), flat_appL]
theorem moved_set {l : List Int} {i : Nat} (f : Int) (hi : i ≤ l.length) : ((l ++ [0]).take (i + 1) ++ l.drop i).set i f = l.take i ++ f :: l.drop i := by
  have e : (l ++ [0]).take (i + 1) = l.take i ++ [((l ++ [0])[i]?).getD 0] := by
    have hlt : i < (l ++ [0]).length := by rw [List.length_append, List.length_singleton]; omega
    rw [List.take_add_one, List.getElem?_eq_getElem hlt, Option.toList, Option.getD_some, List.take_append_of_le_length hi]
  rw [e, List.append_assoc, List.set_append_right _ _ (by rw [List.length_take]; omega), List.length_take, Nat.min_eq_left hi, Nat.sub_self]
  rfl
theorem moved_len {l : List Int} {i : Nat} (hi : i ≤ l.length) : ((l ++ [0]).take (i + 1) ++ l.drop i).length = l.length + 1 := by
  rw [List.length_append, List.length_take, List.length_drop, List.length_append, List.length_singleton]
  omega
theorem cod_own {P : Program} {Q : Post} {n : Nat} {F : Frm} {H R : List Ent} {cd : Code} {q : Option Addr} {e sz m c : Nat} {xs : List Value} (p : Pick (own (.slice q m c) e sz m xs) H R) (hm : 0 < m) (k : ∀ g raw, q = some ⟨g, 0, none⟩ → raw.length = c * sz → raw.take (m * sz) = xs → m ≤ c → Cod P Q n cd F (own (.slice (some ⟨g, 0, none⟩) c c) e sz c raw :: R)) : Cod P Q n cd F H := fun a w ha hw => by
  have hw' := hw.perm p.perm
  have hh : w.ownsRow 0 e sz (.slice q m c) m xs := hw'.head
  rcases hh.2 with ⟨hv, h0⟩ | ⟨g, cap, cur, hv, hb, hg, h2, h3, h4, h5⟩
  · omega
  · cases hv
    exact (cod_whole p fun raw h1 h2 h3 _ => k g raw rfl h1 h2 h3) a w ha hw
attribute [local irreducible] box own sl old bptr eptr Qt Opr Run Cod Pst Drn
set_option maxRecDepth 100000 in
set_option maxHeartbeats 8000000 in
theorem freq_any (q : Option Addr) (c : Nat) (F : List Int) (hl : F.length ≤ 1000000000000000) :
    Ct Try.prog 13 [.slice q F.length c] [sl 1 (.slice q F.length c) (F.map fI)] fun v H' => v = .int .i64 (chkE F) ∧ H' = [] := by
  by_cases h : 320 < F.length
  · have e : chkE F = 2 := by unfold chkE; rw [if_pos h]
    rw [e]
    (refine spec_enter Try.func13 Try.ntmps13 rfl rfl fun Fr => ?_; dsimp only [List.cons_append, List.nil_append, ini, Nat.reduceAdd])
    (repeat' (first | (apply run_qg 1; (focus rfl); (focus exact wt); (focus rfl); (focus (exact qg1))) | (apply run_qg 4; (focus rfl); (focus exact wt); (focus rfl); (focus (first | exact qg4 | exact qs4))) | (apply run_qg 6; (focus rfl); (focus exact wt); (focus rfl); (focus (first | exact qs6 | exact qg6 | exact q_max rfl rfl rfl | exact q_sliceData rfl rfl (by omega) | exact q_sliceDataN rfl rfl | exact q_unsafeStringN rfl rfl rfl | exact q_cap_slice rfl rfl))) | refine cod_seq ?_ | refine cod_region ?_ | refine run_nil ?_ | refine pst_then ?_ | (apply cod_cond_t; (focus rfl)) | refine cod_ret ?_ | refine pst_then_ret ?_))
    exact pst_fin rfl (by exact resa) _ (⟨rfl, rfl⟩) (by exact hsa)
  · have e : chkE F = badE F := by unfold chkE; rw [if_neg h]
    rw [e]
    (refine spec_enter Try.func13 Try.ntmps13 rfl rfl fun Fr => ?_; dsimp only [List.cons_append, List.nil_append, ini, Nat.reduceAdd])
    (repeat' (first | (apply run_qg 1; (focus rfl); (focus exact wt); (focus rfl); (focus (exact qg1))) | (apply run_qg 4; (focus rfl); (focus exact wt); (focus rfl); (focus (first | exact qg4 | exact qs4))) | (apply run_qg 6; (focus rfl); (focus exact wt); (focus rfl); (focus (first | exact qs6 | exact qg6 | exact q_max rfl rfl rfl | exact q_sliceData rfl rfl (by omega) | exact q_sliceDataN rfl rfl | exact q_unsafeStringN rfl rfl rfl | exact q_cap_slice rfl rfl))) | refine cod_seq ?_ | refine cod_region ?_ | refine run_nil ?_ | refine pst_then ?_ | (apply cod_cond_f; (focus rfl)) | refine cod_block ?_ | refine cod_skip ?_))
    (refine cod_loop_ro (σ := Nat) (fun k => k ≤ F.length ∧ badE F = badE (F.drop k)) (fun k => [(10, .int .i64 (k : Int))]) (fun k => F.length - k) (0) (by exact ⟨Nat.zero_le _, rfl⟩) (by exact fsa) (fun k ⟨hk, hb⟩ => ?_); dsimp only [List.cons_append, List.nil_append])
    rcases get_or F k with ⟨f, hf, hlt⟩ | hge
    · have h1 := badE_at hf
      rw [← hb] at h1
      rcases Int.lt_or_le f 0 with g | g
      · rw [if_pos g] at h1
        (repeat' (first | (apply run_qg 1; (focus rfl); (focus exact wt); (focus rfl); (focus (exact qg1))) | (apply run_qg 2; (focus rfl); (focus exact wt); (focus rfl); (focus (first | exact qg2 | exact qs2))) | (apply run_qg 3; (focus rfl); (focus exact wt); (focus rfl); (focus (first | exact qg3 | exact qs3))) | (apply run_qg 4; (focus rfl); (focus exact wt); (focus rfl); (focus (first | exact qg4 | exact qs4))) | refine cod_seq ?_ | refine cod_region ?_ | refine run_nil ?_ | refine pst_then ?_ | (apply cod_cond_t; (focus rfl)) | refine cod_block ?_ | refine cod_ret ?_ | refine cod_skip ?_ | refine pst_block_ret ?_ | refine pst_then_ret ?_))
        exact pst_fin rfl (by exact resa) _ (⟨by rw [h1], rfl⟩) (by exact hsa)
      · rw [if_neg (by omega)] at h1
        rcases Int.lt_or_le 1048576 f with g2 | g2
        · rw [if_pos g2] at h1
          (repeat' (first | (apply run_qg 1; (focus rfl); (focus exact wt); (focus rfl); (focus (exact qg1))) | (apply run_qg 2; (focus rfl); (focus exact wt); (focus rfl); (focus (first | exact qg2 | exact qs2))) | (apply run_qg 3; (focus rfl); (focus exact wt); (focus rfl); (focus (first | exact qg3 | exact qs3))) | (apply run_qg 4; (focus rfl); (focus exact wt); (focus rfl); (focus (first | exact qg4 | exact qs4))) | refine cod_seq ?_ | refine cod_region ?_ | refine run_nil ?_ | refine pst_then ?_ | (apply cod_cond_t; (focus rfl)) | (apply cod_cond_f; (focus rfl)) | refine cod_block ?_ | refine cod_ret ?_ | refine cod_skip ?_ | refine pst_block_ret ?_ | refine pst_then_ret ?_))
          exact pst_fin rfl (by exact resa) _ (⟨by rw [h1], rfl⟩) (by exact hsa)
        · rw [if_neg (by omega)] at h1
          (repeat' (first | (apply run_qg 1; (focus rfl); (focus exact wt); (focus rfl); (focus (exact qg1))) | (apply run_qg 2; (focus rfl); (focus exact wt); (focus rfl); (focus (first | exact qg2 | exact qs2))) | (apply run_qg 3; (focus rfl); (focus exact wt); (focus rfl); (focus (first | exact qg3 | exact qs3))) | (apply run_qg 4; (focus rfl); (focus exact wt); (focus rfl); (focus (first | exact qg4 | exact qs4))) | refine cod_seq ?_ | refine cod_region ?_ | refine run_nil ?_ | refine pst_then ?_ | (apply cod_cond_t; (focus rfl)) | (apply cod_cond_f; (focus rfl)) | refine cod_block ?_ | refine cod_skip ?_ | refine pst_block ?_))
          refine pst_again (k + 1) ?_ (FSub.of (by (try dsimp only); exact fsa)) (by (try dsimp only); exact hsa) ?_
          · exact ⟨hlt, h1⟩
          · omega
    · have h1 : badE F = 0 := by rw [hb, List.drop_of_length_le hge]; rfl
      (repeat' (first | (apply run_qg 1; (focus rfl); (focus exact wt); (focus rfl); (focus (exact qg1))) | (apply run_qg 4; (focus rfl); (focus exact wt); (focus rfl); (focus (first | exact qg4 | exact qs4))) | refine cod_seq ?_ | refine cod_region ?_ | refine run_nil ?_ | refine pst_then ?_ | (apply cod_cond_f; (focus rfl)) | refine cod_exit ?_ | refine cod_ret ?_ | refine pst_block_here ?_ | refine pst_then_exit ?_))
      exact pst_fin rfl (by exact resa) _ (⟨by rw [h1], rfl⟩) (by exact hsa)
set_option maxRecDepth 100000 in
set_option maxHeartbeats 8000000 in
theorem comes_any (q : Option Addr) (c : Nat) (F : List Int) (hl : F.length ≤ 1000) (hF : ∀ f ∈ F, 0 ≤ f ∧ f ≤ 1048576) :
    Ct Try.prog 12 [.slice q F.length c] [sl 1 (.slice q F.length c) (F.map fI)] fun v H' => ∃ q' c', v = .slice q' (comes F F.length).length c' ∧ H' = [own (.slice q' (comes F F.length).length c') 3 1 (comes F F.length).length (flat fI (comes F F.length))] := by
  (refine spec_enter Try.func12 Try.ntmps12 rfl rfl fun Fr => ?_; dsimp only [List.cons_append, List.nil_append, ini, Nat.reduceAdd])
  (repeat' (first | (apply run_qg 1; (focus rfl); (focus exact wt); (focus rfl); (focus (exact qg1))) | (apply run_qg 6; (focus rfl); (focus exact wt); (focus rfl); (focus (first | exact qs6 | exact qg6 | exact q_max rfl rfl rfl | exact q_sliceData rfl rfl (by omega) | exact q_sliceDataN rfl rfl | exact q_unsafeStringN rfl rfl rfl | exact q_cap_slice rfl rfl))) | refine cod_seq ?_ | refine cod_region ?_ | refine run_nil ?_ | refine pst_then ?_ | refine cod_block ?_))
  refine cod_heap (heap_nil _ 3 1) ?_
  (refine cod_loop_rw (σ := Nat × Option Addr × Nat × List Int) (fun s => s.1 ≤ F.length ∧ s.2.2.2 = comes F s.1) (fun s => [(9, .int .i64 (s.1 : Int)), (3, .slice s.2.1 s.2.2.2.length s.2.2.1)]) (fun s => [own (.slice s.2.1 s.2.2.2.length s.2.2.1) 3 1 s.2.2.2.length (flat fI s.2.2.2)]) _ (fun s => F.length - s.1) ((0, none, 0, [])) (by exact ⟨Nat.zero_le _, rfl⟩) (by exact fsa) (by (first | exact HSub.of_picks_rest (by exact pca))) (fun ⟨k, q1, c1, l⟩ ⟨hk, hL⟩ => ?_); dsimp only [List.cons_append, List.nil_append])
  dsimp only at hk hL
  have hll : l.length ≤ k := by rw [hL]; exact comes_len F k
  rcases get_or F k with ⟨f, hf, hlt⟩ | hge
  · have hff := hF f (List.mem_of_getElem? hf)
    have hw : wF F k = f := by unfold wF; rw [List.getD_eq_getElem?_getD, hf]; rfl
    by_cases h0 : f = 0
    · have e : comes F (k + 1) = l := by rw [comes, if_pos (by omega), hL]
      clear hL
      subst h0
      (repeat' (first | (apply run_qg 1; (focus rfl); (focus exact wt); (focus rfl); (focus (exact qg1))) | (apply run_qg 2; (focus rfl); (focus exact wt); (focus rfl); (focus (first | exact qg2 | exact qs2))) | (apply run_qg 3; (focus rfl); (focus exact wt); (focus rfl); (focus (first | exact qg3 | exact qs3))) | (apply run_qg 4; (focus rfl); (focus exact wt); (focus rfl); (focus (first | exact qg4 | exact qs4))) | refine cod_seq ?_ | refine cod_region ?_ | refine run_nil ?_ | refine pst_then ?_ | (apply cod_cond_t; (focus rfl)) | refine cod_block ?_ | refine cod_exit ?_ | refine cod_skip ?_ | refine pst_block_here ?_ | refine pst_then_exit ?_))
      refine pst_again ((k + 1, q1, c1, l)) ?_ (FSub.of (by (try dsimp only); exact fsa)) (by (try dsimp only); exact hsa) ?_
      · exact ⟨hlt, e.symm⟩
      · dsimp only; omega
    · have e : comes F (k + 1) = insD f l := by rw [comes, if_neg (by omega), hL, hw]
      rw [ins_at] at e
      have hin := ahead_in f l
      have hout := ahead_out f l
      have hal := ahead_le f l
      have hml := moved_len hal
      have hms := moved_set f hal
      clear hL
      generalize ahead f l = a at *
      (repeat' (first | (apply run_qg 1; (focus rfl); (focus exact wt); (focus rfl); (focus (exact qg1))) | (apply run_qg 2; (focus rfl); (focus exact wt); (focus rfl); (focus (first | exact qg2 | exact qs2))) | (apply run_qg 3; (focus rfl); (focus exact wt); (focus rfl); (focus (first | exact qg3 | exact qs3))) | (apply run_qg 4; (focus rfl); (focus exact wt); (focus rfl); (focus (first | exact qg4 | exact qs4))) | refine cod_seq ?_ | refine cod_region ?_ | refine run_nil ?_ | refine pst_then ?_ | (apply cod_cond_t; (focus rfl)) | (apply cod_cond_f; (focus rfl)) | refine cod_block ?_ | refine cod_skip ?_))
      (refine cod_loop_ro (σ := Nat) (fun i => i ≤ a) (fun i => [(6, .int .i64 (i : Int))]) (fun i => a - i) (0) (by exact Nat.zero_le _) (by exact fsa) (fun i hi => ?_); dsimp only [List.cons_append, List.nil_append])
      rcases Nat.lt_or_ge i a with hia | hia
      · obtain ⟨x, hx, hfx⟩ := hin i hia
        clear hin hout hml hms e
        (repeat' (first | (apply run_qg 1; (focus rfl); (focus exact wt); (focus rfl); (focus (exact qg1))) | (apply run_qg 2; (focus rfl); (focus exact wt); (focus rfl); (focus (first | exact qg2 | exact qs2))) | (apply run_qg 3; (focus rfl); (focus exact wt); (focus rfl); (focus (first | exact qg3 | exact qs3))) | (apply run_qg 4; (focus rfl); (focus exact wt); (focus rfl); (focus (first | exact qg4 | exact qs4))) | (apply run_qg 6; (focus rfl); (focus exact wt); (focus rfl); (focus (first | exact qs6 | exact qg6 | exact q_max rfl rfl rfl | exact q_sliceData rfl rfl (by omega) | exact q_sliceDataN rfl rfl | exact q_unsafeStringN rfl rfl rfl | exact q_cap_slice rfl rfl))) | refine cod_seq ?_ | refine cod_region ?_ | refine run_nil ?_ | refine pst_then ?_ | (apply cod_cond_t; (focus rfl)) | refine cod_block ?_ | refine cod_skip ?_ | refine pst_block ?_))
        refine pst_again (i + 1) ?_ (FSub.of (by (try dsimp only); exact fsa)) (by (try dsimp only); exact hsa) ?_
        · exact hia
        · omega
      · have hi2 : i = a := by omega
        subst hi2
        rcases get_or l i with ⟨x, hx, hlt2⟩ | hge2
        · have hxf := hout x hx
          clear hin hout
          (repeat' (first | (apply run_qg 1; (focus rfl); (focus exact wt); (focus rfl); (focus (exact qg1))) | (apply run_qg 2; (focus rfl); (focus exact wt); (focus rfl); (focus (first | exact qg2 | exact qs2))) | (apply run_qg 3; (focus rfl); (focus exact wt); (focus rfl); (focus (first | exact qg3 | exact qs3))) | (apply run_qg 4; (focus rfl); (focus exact wt); (focus rfl); (focus (first | exact qg4 | exact qs4))) | (apply run_qg 6; (focus rfl); (focus exact wt); (focus rfl); (focus (first | exact qs6 | exact qg6 | exact q_max rfl rfl rfl | exact q_sliceData rfl rfl (by omega) | exact q_sliceDataN rfl rfl | exact q_unsafeStringN rfl rfl rfl | exact q_cap_slice rfl rfl))) | refine cod_seq ?_ | refine cod_region ?_ | refine run_nil ?_ | refine pst_then ?_ | (apply cod_cond_f; (focus rfl)) | refine cod_exit ?_ | refine pst_block_here ?_ | refine pst_then_exit ?_ | (apply run_osg 10; (focus rfl); (focus exact wt); (focus rfl); (focus (exact opr_buildSlice rfl rfl rfl (by exact blda) rfl rfl (by decide) rfl)); (rintro _ _ ⟨q, rfl, rfl⟩))))
          refine run_os wt rfl (by first | exact opr_append_lit0 (fI) [(0 : Int)] rfl rfl rfl (by exact pka) (by rfl) (by rfl) (by intro _; rfl) (by (first | exact one_fS | exact one_fI | exact one_fB | exact one_fP | exact one_fIIS | exact one_fIIIS | exact one_fII | exact one_fSI | exact one_fIIU | exact one_fY | exact one_fBl | exact one_fT | exact one_fE | assumption)) rfl (by simp only [List.length_cons, List.length_nil]; omega) (by (unfold maxLen); simp only [List.length_cons, List.length_nil]; omega) | exact opr_append_lit (fI) [(0 : Int)] rfl rfl rfl (by exact pka) (by exact pka) (by rfl) (by rfl) (by first | rfl | omega) (by intro _; rfl) (by (first | exact one_fS | exact one_fI | exact one_fB | exact one_fP | exact one_fIIS | exact one_fIIIS | exact one_fII | exact one_fSI | exact one_fIIU | exact one_fY | exact one_fBl | exact one_fT | exact one_fE | assumption)) rfl (by simp only [List.length_cons, List.length_nil]; omega) (by (unfold maxLen); simp only [List.length_cons, List.length_nil]; omega)) ?_
          rintro _ _ ⟨q3, c3, rfl, rfl⟩
          rw [show (l ++ [(0 : Int)]).length = l.length + 1 by rw [List.length_append, List.length_singleton]]
          (repeat' (first | (apply run_qg 1; (focus rfl); (focus exact wt); (focus rfl); (focus (exact qg1))) | refine cod_seq ?_ | refine run_nil ?_ | refine pst_then ?_))
          refine cod_own pka (by omega) fun g raw hq3 hrl hrt hmc => ?_
          subst hq3
          obtain ⟨v1, v2⟩ := moved (k := l.length - i) hrt rfl hal rfl hmc hrl
          obtain ⟨Z, hZ⟩ : ∃ Z, Z = (l ++ [0]).take (i + 1) ++ l.drop i := ⟨_, rfl⟩
          obtain ⟨Y, hY⟩ : ∃ Y, Y = l.take i ++ f :: l.drop i := ⟨_, rfl⟩
          have hYl : Y.length = l.length + 1 := by rw [hY, ← hms, List.length_set, hml]
          rw [← hZ] at hml hms v2
          rw [← hY] at hms e
          have hzi : ∃ z, Z[i]? = some z := ⟨_, List.getElem?_eq_getElem (by omega)⟩
          obtain ⟨z0, hz0⟩ := hzi
          (refine cod_drawn_ks (Hq := []) [] [] rfl (by kernel_rfl) (by simp only [List.length_cons, List.length_nil, Nat.reduceAdd]; rfl) ?_)
          (repeat' (first | (apply drnK_take 1; (focus rfl); (focus rfl); (focus exact wt); (focus (decide +kernel)); (focus exact hsq); (focus rfl); (focus (exact qg1))) | (apply drnK_take 4; (focus rfl); (focus rfl); (focus exact wt); (focus (decide +kernel)); (focus exact hsq); (focus rfl); (focus (first | exact qg4 | exact qs4))) | (apply drnK_take 12; (focus rfl); (focus rfl); (focus exact wt); (focus (decide +kernel)); (focus exact hsq); (focus rfl); (focus (first | exact qs12 | exact q_cutp rfl rfl rfl rfl (by omega) (by omega) | exact q_slice_cap rfl rfl rfl rfl (by omega)))) | (apply drnK_done; (focus (decide +kernel))) | (apply drnK_skip; (focus rfl)) | (apply drnK_wrap; (focus rfl))))
          (refine drnK_at 3 ?_; refine drnK_take _ rfl rfl wt (by decide +kernel) hsq rfl (q_slice_lo (i := i + 1) rfl rfl rfl rfl (by omega)) ?_)
          (repeat' (first | (apply drnK_done; (focus (decide +kernel))) | (apply drnK_skip; (focus rfl))))
          rw [show ((⟨g, 0, none⟩ : Addr).add i) = ⟨g, i * 1, none⟩ by rw [addr_shift, Nat.zero_add, Nat.mul_one]]
          rcases Nat.lt_or_ge (i + 1) c3 with hic | hic
          · rw [sliced_some hic]
            (refine drnK_at 7 ?_; (first | refine drnK_ones _ (by rfl) (by rfl) (by kernel_rfl) wt (by rfl) (by exact (opr_copy_self (k := l.length - i) rfl rfl rfl .here (by show min _ _ = _; omega) (by omega) (by rw [hrl]; omega) (by rw [v1]; exact one_flatI _))) ?_ | refine drnK_onen _ (by rfl) (by rfl) (by kernel_rfl) wt (by exact (opr_copy_self (k := l.length - i) rfl rfl rfl .here (by show min _ _ = _; omega) (by omega) (by rw [hrl]; omega) (by rw [v1]; exact one_flatI _))) ?_); rintro _ _ ⟨rfl, rfl⟩; refine ⟨(by first | exact fun h => absurd h (by decide) | exact fun _ => hsq), ?_⟩; (try dsimp only [List.cons_append, List.nil_append]))
            rw [v1]
            (repeat' (first | (apply run_qg 1; (focus rfl); (focus exact wt); (focus rfl); (focus (exact qg1))) | refine cod_region ?_ | refine pst_then ?_ | (apply drnK_end; (focus (decide +kernel)))))
            refine run_heap (own_front (m := l.length + 1) hmc v2) ?_
            (repeat' (first | (apply run_qg 3; (focus rfl); (focus exact wt); (focus rfl); (focus (first | exact qg3 | exact qs3)))))
            (refine run_on wt (opr_store_ownm (f := fI) (q' := f) rfl rfl rfl rfl (by exact pka) rfl (by omega) (by intro _; rfl) (by assumption) rfl rfl (by rfl)) ?_; rintro _ _ ⟨rfl, rfl⟩)
            rw [hms, ← hYl]
            (repeat' (first | (apply run_qg 1; (focus rfl); (focus exact wt); (focus rfl); (focus (exact qg1))) | (apply run_qg 4; (focus rfl); (focus exact wt); (focus rfl); (focus (first | exact qg4 | exact qs4))) | refine cod_region ?_ | refine run_nil ?_ | refine pst_then ?_ | refine pst_block ?_))
            refine pst_again ((k + 1, some ⟨g, 0, none⟩, c3, Y)) ?_ (FSub.of (by (try dsimp only); exact fsa)) (by (try dsimp only); exact hsa) ?_
            · exact ⟨hlt, e.symm⟩
            · dsimp only; omega
          · have hci : c3 = i + 1 := by omega
            have hli : l.length = i := by omega
            have hZ2 : Z = l ++ [0] := by rw [hZ, List.take_of_length_le (by rw [List.length_append, List.length_singleton]; omega), List.drop_eq_nil_of_le (by omega), List.append_nil]
            rw [← hZ2] at hrt
            subst hci
            rw [hli, sliced_end]
            (refine drnK_at 7 ?_; (first | refine drnK_ones _ (by rfl) (by rfl) (by kernel_rfl) wt (by rfl) (by exact (opr_copy_self (k := 0) rfl rfl rfl .here (by show min _ _ = _; omega) (by omega) (by rw [hrl]; omega) (by intro v hv; simp at hv))) ?_ | refine drnK_onen _ (by rfl) (by rfl) (by kernel_rfl) wt (by exact (opr_copy_self (k := 0) rfl rfl rfl .here (by show min _ _ = _; omega) (by omega) (by rw [hrl]; omega) (by intro v hv; simp at hv))) ?_); rintro _ _ ⟨rfl, rfl⟩; refine ⟨(by first | exact fun h => absurd h (by decide) | exact fun _ => hsq), ?_⟩; (try dsimp only [List.cons_append, List.nil_append]))
            rw [show raw.take 0 ++ (raw.drop (i * 1)).take (0 * 1) ++ raw.drop (0 + 0 * 1) = raw from by simp]
            (repeat' (first | (apply run_qg 1; (focus rfl); (focus exact wt); (focus rfl); (focus (exact qg1))) | (apply run_qg 3; (focus rfl); (focus exact wt); (focus rfl); (focus (first | exact qg3 | exact qs3))) | refine cod_region ?_ | refine pst_then ?_ | (apply drnK_end; (focus (decide +kernel)))))
            rw [hli] at hrt hYl
            refine run_heap (own_front (m := i + 1) (Nat.le_refl _) hrt) ?_
            skip
            (refine run_on wt (opr_store_ownm (f := fI) (q' := f) rfl rfl rfl rfl (by exact pka) rfl (by omega) (by intro _; rfl) (by assumption) rfl rfl (by rfl)) ?_; rintro _ _ ⟨rfl, rfl⟩)
            rw [hms, ← hYl]
            (repeat' (first | (apply run_qg 1; (focus rfl); (focus exact wt); (focus rfl); (focus (exact qg1))) | (apply run_qg 4; (focus rfl); (focus exact wt); (focus rfl); (focus (first | exact qg4 | exact qs4))) | refine cod_region ?_ | refine run_nil ?_ | refine pst_then ?_ | refine pst_block ?_))
            refine pst_again ((k + 1, some ⟨g, 0, none⟩, Y.length, Y)) ?_ (FSub.of (by (try dsimp only); exact fsa)) (by (try dsimp only); exact hsa) ?_
            · exact ⟨hlt, e.symm⟩
            · dsimp only; omega
        · clear hin hout
          (repeat' (first | (apply run_qg 1; (focus rfl); (focus exact wt); (focus rfl); (focus (exact qg1))) | (apply run_qg 4; (focus rfl); (focus exact wt); (focus rfl); (focus (first | exact qg4 | exact qs4))) | (apply run_qg 6; (focus rfl); (focus exact wt); (focus rfl); (focus (first | exact qs6 | exact qg6 | exact q_max rfl rfl rfl | exact q_sliceData rfl rfl (by omega) | exact q_sliceDataN rfl rfl | exact q_unsafeStringN rfl rfl rfl | exact q_cap_slice rfl rfl))) | refine cod_seq ?_ | refine cod_region ?_ | refine run_nil ?_ | refine pst_then ?_ | (apply cod_cond_f; (focus rfl)) | refine cod_exit ?_ | refine pst_block_here ?_ | refine pst_then_exit ?_ | (apply run_osg 10; (focus rfl); (focus exact wt); (focus rfl); (focus (exact opr_buildSlice rfl rfl rfl (by exact blda) rfl rfl (by decide) rfl)); (rintro _ _ ⟨q, rfl, rfl⟩)) | (apply run_offs; (focus rfl); (focus rfl); (focus rfl))))
          refine run_os wt rfl (by first | exact opr_append_lit0 (fI) [(0 : Int)] rfl rfl rfl (by exact pka) (by rfl) (by rfl) (by intro _; rfl) (by (first | exact one_fS | exact one_fI | exact one_fB | exact one_fP | exact one_fIIS | exact one_fIIIS | exact one_fII | exact one_fSI | exact one_fIIU | exact one_fY | exact one_fBl | exact one_fT | exact one_fE | assumption)) rfl (by simp only [List.length_cons, List.length_nil]; omega) (by (unfold maxLen); simp only [List.length_cons, List.length_nil]; omega) | exact opr_append_lit (fI) [(0 : Int)] rfl rfl rfl (by exact pka) (by exact pka) (by rfl) (by rfl) (by first | rfl | omega) (by intro _; rfl) (by (first | exact one_fS | exact one_fI | exact one_fB | exact one_fP | exact one_fIIS | exact one_fIIIS | exact one_fII | exact one_fSI | exact one_fIIU | exact one_fY | exact one_fBl | exact one_fT | exact one_fE | assumption)) rfl (by simp only [List.length_cons, List.length_nil]; omega) (by (unfold maxLen); simp only [List.length_cons, List.length_nil]; omega)) ?_
          rintro _ _ ⟨q3, c3, rfl, rfl⟩
          rw [show (l ++ [(0 : Int)]).length = l.length + 1 by rw [List.length_append, List.length_singleton]]
          (repeat' (first | (apply run_qg 1; (focus rfl); (focus exact wt); (focus rfl); (focus (exact qg1))) | refine cod_seq ?_ | refine run_nil ?_ | refine pst_then ?_))
          refine cod_own pka (by omega) fun g raw hq3 hrl hrt hmc => ?_
          subst hq3
          obtain ⟨v1, v2⟩ := moved (k := l.length - i) hrt rfl hal rfl hmc hrl
          obtain ⟨Z, hZ⟩ : ∃ Z, Z = (l ++ [0]).take (i + 1) ++ l.drop i := ⟨_, rfl⟩
          obtain ⟨Y, hY⟩ : ∃ Y, Y = l.take i ++ f :: l.drop i := ⟨_, rfl⟩
          have hYl : Y.length = l.length + 1 := by rw [hY, ← hms, List.length_set, hml]
          rw [← hZ] at hml hms v2
          rw [← hY] at hms e
          have hzi : ∃ z, Z[i]? = some z := ⟨_, List.getElem?_eq_getElem (by omega)⟩
          obtain ⟨z0, hz0⟩ := hzi
          (refine cod_drawn_ks (Hq := []) [] [] rfl (by kernel_rfl) (by simp only [List.length_cons, List.length_nil, Nat.reduceAdd]; rfl) ?_)
          (repeat' (first | (apply drnK_take 1; (focus rfl); (focus rfl); (focus exact wt); (focus (decide +kernel)); (focus exact hsq); (focus rfl); (focus (exact qg1))) | (apply drnK_take 4; (focus rfl); (focus rfl); (focus exact wt); (focus (decide +kernel)); (focus exact hsq); (focus rfl); (focus (first | exact qg4 | exact qs4))) | (apply drnK_take 12; (focus rfl); (focus rfl); (focus exact wt); (focus (decide +kernel)); (focus exact hsq); (focus rfl); (focus (first | exact qs12 | exact q_cutp rfl rfl rfl rfl (by omega) (by omega) | exact q_slice_cap rfl rfl rfl rfl (by omega)))) | (apply drnK_done; (focus (decide +kernel))) | (apply drnK_skip; (focus rfl)) | (apply drnK_wrap; (focus rfl))))
          (refine drnK_at 3 ?_; refine drnK_take _ rfl rfl wt (by decide +kernel) hsq rfl (q_slice_lo (i := i + 1) rfl rfl rfl rfl (by omega)) ?_)
          (repeat' (first | (apply drnK_done; (focus (decide +kernel))) | (apply drnK_skip; (focus rfl))))
          rw [show ((⟨g, 0, none⟩ : Addr).add i) = ⟨g, i * 1, none⟩ by rw [addr_shift, Nat.zero_add, Nat.mul_one]]
          rcases Nat.lt_or_ge (i + 1) c3 with hic | hic
          · rw [sliced_some hic]
            (refine drnK_at 7 ?_; (first | refine drnK_ones _ (by rfl) (by rfl) (by kernel_rfl) wt (by rfl) (by exact (opr_copy_self (k := l.length - i) rfl rfl rfl .here (by show min _ _ = _; omega) (by omega) (by rw [hrl]; omega) (by rw [v1]; exact one_flatI _))) ?_ | refine drnK_onen _ (by rfl) (by rfl) (by kernel_rfl) wt (by exact (opr_copy_self (k := l.length - i) rfl rfl rfl .here (by show min _ _ = _; omega) (by omega) (by rw [hrl]; omega) (by rw [v1]; exact one_flatI _))) ?_); rintro _ _ ⟨rfl, rfl⟩; refine ⟨(by first | exact fun h => absurd h (by decide) | exact fun _ => hsq), ?_⟩; (try dsimp only [List.cons_append, List.nil_append]))
            rw [v1]
            (repeat' (first | (apply run_qg 1; (focus rfl); (focus exact wt); (focus rfl); (focus (exact qg1))) | refine cod_region ?_ | refine pst_then ?_ | (apply drnK_end; (focus (decide +kernel)))))
            refine run_heap (own_front (m := l.length + 1) hmc v2) ?_
            (repeat' (first | (apply run_qg 3; (focus rfl); (focus exact wt); (focus rfl); (focus (first | exact qg3 | exact qs3)))))
            (refine run_on wt (opr_store_ownm (f := fI) (q' := f) rfl rfl rfl rfl (by exact pka) rfl (by omega) (by intro _; rfl) (by assumption) rfl rfl (by rfl)) ?_; rintro _ _ ⟨rfl, rfl⟩)
            rw [hms, ← hYl]
            (repeat' (first | (apply run_qg 1; (focus rfl); (focus exact wt); (focus rfl); (focus (exact qg1))) | (apply run_qg 4; (focus rfl); (focus exact wt); (focus rfl); (focus (first | exact qg4 | exact qs4))) | refine cod_region ?_ | refine run_nil ?_ | refine pst_then ?_ | refine pst_block ?_))
            refine pst_again ((k + 1, some ⟨g, 0, none⟩, c3, Y)) ?_ (FSub.of (by (try dsimp only); exact fsa)) (by (try dsimp only); exact hsa) ?_
            · exact ⟨hlt, e.symm⟩
            · dsimp only; omega
          · have hci : c3 = i + 1 := by omega
            have hli : l.length = i := by omega
            have hZ2 : Z = l ++ [0] := by rw [hZ, List.take_of_length_le (by rw [List.length_append, List.length_singleton]; omega), List.drop_eq_nil_of_le (by omega), List.append_nil]
            rw [← hZ2] at hrt
            subst hci
            rw [hli, sliced_end]
            (refine drnK_at 7 ?_; (first | refine drnK_ones _ (by rfl) (by rfl) (by kernel_rfl) wt (by rfl) (by exact (opr_copy_self (k := 0) rfl rfl rfl .here (by show min _ _ = _; omega) (by omega) (by rw [hrl]; omega) (by intro v hv; simp at hv))) ?_ | refine drnK_onen _ (by rfl) (by rfl) (by kernel_rfl) wt (by exact (opr_copy_self (k := 0) rfl rfl rfl .here (by show min _ _ = _; omega) (by omega) (by rw [hrl]; omega) (by intro v hv; simp at hv))) ?_); rintro _ _ ⟨rfl, rfl⟩; refine ⟨(by first | exact fun h => absurd h (by decide) | exact fun _ => hsq), ?_⟩; (try dsimp only [List.cons_append, List.nil_append]))
            rw [show raw.take 0 ++ (raw.drop (i * 1)).take (0 * 1) ++ raw.drop (0 + 0 * 1) = raw from by simp]
            (repeat' (first | (apply run_qg 1; (focus rfl); (focus exact wt); (focus rfl); (focus (exact qg1))) | (apply run_qg 3; (focus rfl); (focus exact wt); (focus rfl); (focus (first | exact qg3 | exact qs3))) | refine cod_region ?_ | refine pst_then ?_ | (apply drnK_end; (focus (decide +kernel)))))
            rw [hli] at hrt hYl
            refine run_heap (own_front (m := i + 1) (Nat.le_refl _) hrt) ?_
            skip
            (refine run_on wt (opr_store_ownm (f := fI) (q' := f) rfl rfl rfl rfl (by exact pka) rfl (by omega) (by intro _; rfl) (by assumption) rfl rfl (by rfl)) ?_; rintro _ _ ⟨rfl, rfl⟩)
            rw [hms, ← hYl]
            (repeat' (first | (apply run_qg 1; (focus rfl); (focus exact wt); (focus rfl); (focus (exact qg1))) | (apply run_qg 4; (focus rfl); (focus exact wt); (focus rfl); (focus (first | exact qg4 | exact qs4))) | refine cod_region ?_ | refine run_nil ?_ | refine pst_then ?_ | refine pst_block ?_))
            refine pst_again ((k + 1, some ⟨g, 0, none⟩, Y.length, Y)) ?_ (FSub.of (by (try dsimp only); exact fsa)) (by (try dsimp only); exact hsa) ?_
            · exact ⟨hlt, e.symm⟩
            · dsimp only; omega
  · have hkn : k = F.length := by omega
    subst hkn
    rw [← hL]
    (repeat' (first | (apply run_qg 1; (focus rfl); (focus exact wt); (focus rfl); (focus (exact qg1))) | (apply run_qg 4; (focus rfl); (focus exact wt); (focus rfl); (focus (first | exact qg4 | exact qs4))) | refine cod_seq ?_ | refine cod_region ?_ | refine run_nil ?_ | refine pst_then ?_ | (apply cod_cond_f; (focus rfl)) | refine cod_exit ?_ | refine cod_ret ?_ | refine pst_block_here ?_ | refine pst_then_exit ?_))
    exact pst_fin rfl (by exact resa) _ (⟨_, _, rfl, rfl⟩) (by exact hsa)
set_option maxRecDepth 100000 in
set_option maxHeartbeats 8000000 in
theorem clone_I (q : Option Addr) (c : Nat) (xs : List (Int)) (hn : xs.length * 8 ≤ 140737488355328) :
    Ct Try.prog 14 [.slice q xs.length c] [sl 1 (.slice q xs.length c) (xs.map fI)] fun v H' => ∃ q' c', v = .slice q' xs.length c' ∧ H' = [own (.slice q' xs.length c') 3 1 xs.length (flat fI xs)] := by
  refine ct_sl_nil (fun hq hc hx => ?_) fun hq => ?_
  · subst hq
    subst hc
    have hx' : xs = [] := by simpa using hx
    subst hx'
    (refine spec_enter Try.func14 Try.ntmps14 rfl rfl fun Fr => ?_; dsimp only [List.cons_append, List.nil_append, ini, Nat.reduceAdd])
    (repeat' (first | (apply run_qg 1; (focus rfl); (focus exact wt); (focus rfl); (focus (exact qg1))) | refine cod_seq ?_ | refine cod_region ?_ | refine run_nil ?_ | refine pst_then ?_))
    refine run_qs wt (by rfl) (q_slice_isnil rfl rfl rfl) ?_
    (repeat' (first | (apply run_qg 1; (focus rfl); (focus exact wt); (focus rfl); (focus (exact qg1))) | refine cod_seq ?_ | refine cod_region ?_ | refine run_nil ?_ | refine pst_then ?_ | (apply cod_cond_t; (focus rfl)) | refine cod_ret ?_ | refine pst_then_ret ?_))
    refine pst_weak (FSub.refl _) (heap_nil _ 3 1) ?_
    exact pst_fin rfl (by exact resa) _ (⟨none, 0, rfl, rfl⟩) (by exact hsa)
  · obtain ⟨ad, rfl⟩ := hq
    (refine spec_enter Try.func14 Try.ntmps14 rfl rfl fun Fr => ?_; dsimp only [List.cons_append, List.nil_append, ini, Nat.reduceAdd])
    (repeat' (first | (apply run_qg 1; (focus rfl); (focus exact wt); (focus rfl); (focus (exact qg1))) | refine cod_seq ?_ | refine cod_region ?_ | refine run_nil ?_ | refine pst_then ?_))
    refine run_qs wt (by rfl) (q_slice_isnil rfl rfl rfl) ?_
    (repeat' (first | refine cod_seq ?_ | refine cod_region ?_ | refine run_nil ?_ | refine pst_then ?_ | (apply cod_cond_f; (focus rfl)) | refine cod_skip ?_))
    (refine run_os wt rfl (opr_empty rfl) ?_; rintro _ _ ⟨g, rfl, rfl⟩)
    (repeat' (first | (apply run_qg 1; (focus rfl); (focus exact wt); (focus rfl); (focus (exact qg1)))))
    (refine run_os wt rfl (opr_append (cnt := 0) (f := fI) (ys := xs) rfl rfl rfl pka pka (by intro _; rfl) (by (first | exact one_fS | exact one_fI | exact one_fB | exact one_fP | exact one_fIIS | exact one_fIIIS | exact one_fII | exact one_fSI | exact one_fIIU | exact one_fY | exact one_fBl | exact one_fT | exact one_fE | assumption)) rfl (by omega) (by (unfold maxLen); omega)) ?_; rintro _ _ ⟨q2, c2, rfl, rfl⟩)
    rw [Nat.zero_add, List.nil_append]
    (repeat' (first | (apply run_qg 1; (focus rfl); (focus exact wt); (focus rfl); (focus (exact qg1))) | refine run_nil ?_ | refine pst_then ?_ | refine cod_ret ?_))
    exact pst_fin rfl (by exact resa) _ (⟨q2, c2, rfl, rfl⟩) (by exact hsa)

end Go.Proofs.Ytppnaofebkpbkaa.huff
