/-
  slices.Insert, slices.Delete over entries of a directory that the call owns: the walks.
-/
import Derived.Test.YtknclflgghnojaaDir
import Derived.Test.YtknclflgghnojaaSlRow2
namespace Go.Proofs.Ytknclflgghnojaa.dir
open Go.RowKit kit sl Go.Proofs.Ytknclflgghnojaa.nam
set_option linter.unusedVariables false
theorem zrow_len (z : Value) (k : Nat) : (zrow z k).length = k * z.cells.size := by simp [zrow]
theorem fE_len (p : DEnt) : (fE p).length = 2 := rfl
theorem flat_fE_len (l : List DEnt) : (flat fE l).length = l.length * 2 := flat_len fE 2 fE_len l
theorem flat_fE_take (l : List DEnt) (i : Nat) : (flat fE l).take (i * 2) = flat fE (l.take i) := by
  rcases Nat.lt_or_ge i l.length with h | h
  · have e : flat fE l = flat fE (l.take i) ++ flat fE (l.drop i) := by rw [← flat_appL, List.take_append_drop]
    rw [e]
    exact List.take_left' (by rw [flat_fE_len, List.length_take]; omega)
  · rw [List.take_of_length_le (by rw [flat_fE_len]; omega), List.take_of_length_le h]
theorem flat_fE_drop (l : List DEnt) (i : Nat) : (flat fE l).drop (i * 2) = flat fE (l.drop i) := by
  rcases Nat.lt_or_ge i l.length with h | h
  · have e : flat fE l = flat fE (l.take i) ++ flat fE (l.drop i) := by rw [← flat_appL, List.take_append_drop]
    rw [e]
    exact List.drop_left' (by rw [flat_fE_len, List.length_take]; omega)
  · rw [List.drop_eq_nil_of_le (by rw [flat_fE_len]; omega), List.drop_eq_nil_of_le h]
    rfl
theorem one_flat (l : List DEnt) : ∀ v ∈ flat fE l, v.oneCell' = true := by
  intro u hu
  unfold flat at hu
  obtain ⟨a, ha, hul⟩ := List.mem_flatten.1 hu
  obtain ⟨y, _, rfl⟩ := List.mem_map.1 ha
  exact one_fE y u hul
/-- a piece of a row that begins with xs -/
theorem raw_piece {raw : List Value} {xs : List DEnt} (h : raw.take (xs.length * 2) = flat fE xs) {i k : Nat} (hk : i + k ≤ xs.length) : (raw.drop (i * 2)).take (k * 2) = flat fE ((xs.drop i).take k) := by
  rw [← flat_fE_take, ← flat_fE_drop, ← h, List.drop_take, List.take_take]
  congr 1
  omega
theorem raw_front {raw : List Value} {xs : List DEnt} (h : raw.take (xs.length * 2) = flat fE xs) {i : Nat} (hi : i ≤ xs.length) : raw.take (i * 2) = flat fE (xs.take i) := by
  rw [← flat_fE_take, ← h, List.take_take]
  congr 1
  omega
theorem app3_take {A B C : List Value} {n : Nat} (h : n = A.length + B.length) : (A ++ B ++ C).take n = A ++ B := by
  subst h
  rw [← List.length_append]
  exact List.take_left' rfl
theorem put_end {raw : List Value} {ys zs : List DEnt} {a : Nat} (h : raw.take (ys.length * 2) = flat fE ys) (ha : a ≤ ys.length) (hl : (a + zs.length) * 2 ≤ raw.length) : (raw.take (a * 2) ++ flat fE zs ++ raw.drop (a * 2 + zs.length * 2)).take ((a + zs.length) * 2) = flat fE (ys.take a ++ zs) := by
  rw [raw_front h ha, app3_take, flat_appL]
  rw [flat_fE_len, flat_fE_len, List.length_take, Nat.min_eq_left ha, Nat.add_mul]
theorem put_in {raw : List Value} {ys zs : List DEnt} {a : Nat} (h : raw.take (ys.length * 2) = flat fE ys) (ha : a + zs.length ≤ ys.length) : (raw.take (a * 2) ++ flat fE zs ++ raw.drop (a * 2 + zs.length * 2)).take (ys.length * 2) = flat fE (ys.take a ++ zs ++ ys.drop (a + zs.length)) := by
  rw [raw_front h (by omega), List.take_append, ← Nat.add_mul, flat_appL, flat_appL]
  congr 1
  · refine List.take_of_length_le ?_
    rw [List.length_append, flat_fE_len, flat_fE_len, List.length_take, ← Nat.add_mul]
    exact Nat.mul_le_mul_right _ (by omega)
  · have e : (ys.length * 2 - (flat fE (ys.take a) ++ flat fE zs).length) = (ys.length - (a + zs.length)) * 2 := by
      rw [List.length_append, flat_fE_len, flat_fE_len, List.length_take]
      omega
    rw [e, raw_piece h (by omega)]
    congr 1
    exact List.take_of_length_le (by rw [List.length_drop]; omega)
theorem over_run (args : Array Value) (w : World) : (callFunc 84 args).run Try.prog w = ((Extern.SlicesOverlaps.overlaps #[59, 59] #[4] args).run Try.prog w).andThen fun v w' => .ok (.value v) w' :=
  run_callFunc_extern Try.func84 (by kernel_rfl) (by kernel_rfl) (by kernel_rfl) (by kernel_rfl) args w
theorem ct_second {f : FuncId} {args : List Value} {Rs : Value → List Ent → Prop} {q : Option Addr} {e sz m c : Nat} {xs : List Value} {E : Ent} {H : List Ent} {P : Program} (k : m ≤ c → c ≤ maxLen → (q = none ∧ c = 0 ∨ ∃ g, q = some ⟨g, 0, none⟩) → Ct P f args (E :: own (.slice q m c) e sz m xs :: H) Rs) : Ct P f args (E :: own (.slice q m c) e sz m xs :: H) Rs :=
  ct_mono_heap (H := own (.slice q m c) e sz m xs :: E :: H) (fun Fr => hsub_perm (List.Perm.swap _ _ _)) (ct_own_whole fun h1 h2 h3 => ct_mono_heap (H := E :: own (.slice q m c) e sz m xs :: H) (fun Fr => hsub_perm (List.Perm.swap _ _ _)) (k h1 h2 h3))
attribute [local irreducible] box own sl old bptr eptr Qt Opr Run Cod Pst Drn
set_option maxRecDepth 100000 in
set_option maxHeartbeats 8000000 in
theorem ins_any (q qv : Option Addr) (c i : Nat) (xs : List DEnt) (x : DEnt) (hn : xs.length ≤ 24) (hi : i ≤ xs.length) :
    Ct Try.prog 68 [.slice q xs.length c, .int .i64 (i : Int), .slice qv 1 1] [own (.slice q xs.length c) 62 2 xs.length (flat fE xs), own (.slice qv 1 1) 62 2 1 (flat fE [x])] fun v H' => ∃ q' c', v = .slice q' (xs.length + 1) c' ∧ H' = [own (.slice q' (xs.length + 1) c') 62 2 (xs.length + 1) (flat fE (xs.take i ++ x :: xs.drop i))] := by
  refine ct_own_whole fun hmc hcm hq => ?_
  refine ct_second fun _ _ hqv => ?_
  obtain ⟨gv, rfl⟩ : ∃ g, qv = some ⟨g, 0, none⟩ := hqv.resolve_left (by rintro ⟨_, h⟩; omega)
  clear hqv
  unfold maxLen at hcm
  rcases Nat.lt_or_ge i xs.length with hlt | hge
  · obtain ⟨g, rfl⟩ : ∃ g, q = some ⟨g, 0, none⟩ := hq.resolve_left (by rintro ⟨_, h⟩; omega)
    by_cases hroom : c < xs.length + 1
    · clear hq
      (refine spec_enter Try.func68 Try.ntmps68 rfl rfl fun Fr => ?_; dsimp only [List.cons_append, List.nil_append, ini, Nat.reduceAdd])
      (repeat' (first | (apply run_qg 1; (focus rfl); (focus exact wt); (focus rfl); (focus (exact qg1))) | refine cod_seq ?_ | refine cod_region ?_ | refine run_nil ?_ | refine pst_then ?_))
      refine run_qs wt (by rfl) (q_slice_lo rfl rfl rfl rfl (by omega)) ?_
      (repeat' (first | (apply run_qg 1; (focus rfl); (focus exact wt); (focus rfl); (focus (exact qg1))) | (apply run_qg 4; (focus rfl); (focus exact wt); (focus rfl); (focus (first | exact qg4 | exact qs4))) | (apply run_qg 6; (focus rfl); (focus exact wt); (focus rfl); (focus (first | exact qs6 | exact qg6 | exact q_max rfl rfl rfl | exact q_sliceData rfl rfl (by omega) | exact q_sliceDataN rfl rfl | exact q_unsafeStringN rfl rfl rfl | exact q_cap_slice rfl rfl))) | (apply run_qg 12; (focus rfl); (focus exact wt); (focus rfl); (focus (first | exact qs12 | exact q_cutp rfl rfl rfl rfl (by omega) (by omega) | exact q_slice_cap rfl rfl rfl rfl (by omega)))) | refine cod_seq ?_ | refine cod_region ?_ | refine run_nil ?_ | refine pst_then ?_ | (apply cod_cond_t; (focus rfl)) | (apply cod_cond_f; (focus rfl)) | refine cod_skip ?_))
      refine run_whole .here fun raw hrl hrt _ _ => ?_
      (refine run_os wt rfl (opr_append_zeros (k := xs.length + 1 - i) rfl rfl rfl (by omega) .here (by omega) (by omega) rfl (by omega) (by omega) (by show (i + (xs.length + 1 - i)) * 24 ≤ _; omega) (by rw [zrow_len]; rfl)) ?_; rintro _ _ ⟨g2, c2, rfl, rfl⟩)
      have hsrc := raw_piece (i := i) (k := xs.length - i) hrt (by omega)
      rw [List.take_of_length_le (l := xs.drop i) (by rw [List.length_drop]; exact Nat.le_refl _)] at hsrc
      rw [raw_front hrt hi, show i + (xs.length + 1 - i) = xs.length + 1 from by omega]
      refine run_whole .here fun raw2 hrl2 hrt2 hc2 _ => ?_
      have hf2 : raw2.take ((xs.take i).length * 2) = flat fE (xs.take i) := by
        have h := congrArg (List.take (i * 2)) hrt2
        rw [List.take_take, Nat.min_eq_left (by omega), List.take_left' (by rw [flat_fE_len, List.length_take]; omega)] at h
        rw [List.length_take, Nat.min_eq_left hi]
        exact h
      have e1 := put_end (zs := [x]) (a := i) hf2 (by rw [List.length_take]; omega) (by rw [hrl2, List.length_singleton]; omega)
      obtain ⟨raw3, hraw3⟩ : ∃ raw3, raw2.take (i * 2) ++ flat fE [x] ++ raw2.drop (i * 2 + [x].length * 2) = raw3 := ⟨_, rfl⟩
      rw [hraw3, List.take_take, Nat.min_self] at e1
      have hl3 : (xs.take i ++ [x]).length = i + 1 := by rw [List.length_append, List.length_take, List.length_singleton]; omega
      rw [List.length_singleton, ← hl3] at e1
      have hraw3l : raw3.length = c2 * 2 := by
        rw [← hraw3, List.length_append, List.length_append, List.length_take, List.length_drop, flat_fE_len, List.length_singleton]
        omega
      have e2 := put_end (zs := xs.drop i) (a := i + 1) e1 (by omega) (by rw [hraw3l, List.length_drop]; omega)
      rw [List.length_drop, show i + 1 + (xs.length - i) = xs.length + 1 from by omega, List.take_of_length_le (l := xs.take i ++ [x]) (by omega), show xs.take i ++ [x] ++ xs.drop i = xs.take i ++ x :: xs.drop i from by simp] at e2
      (repeat' (first | (apply run_qg 1; (focus rfl); (focus exact wt); (focus rfl); (focus (exact qg1))) | refine cod_seq ?_ | refine cod_region ?_ | refine run_nil ?_ | refine pst_then ?_))
      refine run_qs wt (by rfl) (q_slice_lo (i := i) rfl rfl rfl rfl (by omega)) ?_
      rw [sliced_some (by omega)]
      (repeat' (first | (apply run_qg 1; (focus rfl); (focus exact wt); (focus rfl); (focus (exact qg1)))))
      (refine run_os wt rfl (opr_copy_own (k := 1) rfl rfl rfl .here (.there .here) (by show min _ _ = _; omega) (by omega) (by show 0 + 1 * 2 ≤ 2; omega) (one_flat [x])) ?_; rintro _ _ ⟨rfl, rfl⟩)
      rw [show (List.take (1 * 2) (List.drop 0 (flat fE [x]))) = flat fE [x] from rfl, show i * 2 + 1 * 2 = i * 2 + [x].length * 2 from rfl, hraw3]
      (repeat' (first | refine cod_seq ?_ | refine run_nil ?_ | refine pst_then ?_))
      (refine cod_drawn_ks (Hq := []) [] [] rfl (by kernel_rfl) (by simp only [List.length_cons, List.length_nil, Nat.reduceAdd]; rfl) ?_)
      (repeat' (first | (apply drnK_take 1; (focus rfl); (focus rfl); (focus exact wt); (focus (decide +kernel)); (focus exact hsq); (focus rfl); (focus (exact qg1))) | (apply drnK_take 4; (focus rfl); (focus rfl); (focus exact wt); (focus (decide +kernel)); (focus exact hsq); (focus rfl); (focus (first | exact qg4 | exact qs4))) | (apply drnK_done; (focus (decide +kernel))) | (apply drnK_skip; (focus rfl)) | (apply drnK_wrap; (focus rfl))))
      (refine drnK_at 4 ?_; refine drnK_take _ rfl rfl wt (by decide +kernel) hsq rfl (q_slice_lo (i := i + 1) rfl rfl rfl rfl (by omega)) ?_)
      (repeat' (first | (apply drnK_done; (focus (decide +kernel))) | (apply drnK_skip; (focus rfl))))
      (refine drnK_at 7 ?_; refine drnK_take _ rfl rfl wt (by decide +kernel) hsq rfl (q_slice_lo (i := i) rfl rfl rfl rfl (by omega)) ?_)
      rw [sliced_some (by omega), sliced_some (by omega)]
      (refine drnK_at 8 ?_; (first | refine drnK_ones _ (by rfl) (by rfl) (by kernel_rfl) wt (by rfl) (by exact (opr_copy_own (k := xs.length - i) rfl rfl rfl .here .here (by show min _ _ = _; omega) (by omega) (by rw [hrl]; omega) (by rw [hsrc]; exact one_flat _))) ?_ | refine drnK_onen _ (by rfl) (by rfl) (by kernel_rfl) wt (by exact (opr_copy_own (k := xs.length - i) rfl rfl rfl .here .here (by show min _ _ = _; omega) (by omega) (by rw [hrl]; omega) (by rw [hsrc]; exact one_flat _))) ?_); rintro _ _ ⟨rfl, rfl⟩; refine ⟨(by first | exact fun h => absurd h (by decide) | exact fun _ => hsq), ?_⟩; (try dsimp only [List.cons_append, List.nil_append]))
      rw [hsrc]
      (repeat' (first | (apply run_qg 1; (focus rfl); (focus exact wt); (focus rfl); (focus (exact qg1))) | refine cod_seq ?_ | refine cod_region ?_ | refine run_nil ?_ | refine pst_then ?_ | refine cod_ret ?_ | refine pst_then_ret ?_ | (apply drnK_end; (focus (decide +kernel)))))
      refine pst_weak (FSub.refl _) (own_front (m := xs.length + 1) (by omega) e2) ?_
      exact pst_fin rfl (by exact resa) _ (⟨some ⟨g2, 0, none⟩, c2, rfl, rfl⟩) (by exact hsa)
    · clear hq
      (refine spec_enter Try.func68 Try.ntmps68 rfl rfl fun Fr => ?_; dsimp only [List.cons_append, List.nil_append, ini, Nat.reduceAdd])
      (repeat' (first | (apply run_qg 1; (focus rfl); (focus exact wt); (focus rfl); (focus (exact qg1))) | refine cod_seq ?_ | refine cod_region ?_ | refine run_nil ?_ | refine pst_then ?_))
      refine run_qs wt (by rfl) (q_slice_lo rfl rfl rfl rfl (by omega)) ?_
      (repeat' (first | (apply run_qg 1; (focus rfl); (focus exact wt); (focus rfl); (focus (exact qg1))) | (apply run_qg 4; (focus rfl); (focus exact wt); (focus rfl); (focus (first | exact qg4 | exact qs4))) | (apply run_qg 6; (focus rfl); (focus exact wt); (focus rfl); (focus (first | exact qs6 | exact qg6 | exact q_max rfl rfl rfl | exact q_sliceData rfl rfl (by omega) | exact q_sliceDataN rfl rfl | exact q_unsafeStringN rfl rfl rfl | exact q_cap_slice rfl rfl))) | (apply run_qg 12; (focus rfl); (focus exact wt); (focus rfl); (focus (first | exact qs12 | exact q_cutp rfl rfl rfl rfl (by omega) (by omega) | exact q_slice_cap rfl rfl rfl rfl (by omega)))) | refine cod_seq ?_ | refine cod_region ?_ | refine run_nil ?_ | refine pst_then ?_ | (apply cod_cond_f; (focus rfl)) | refine cod_skip ?_))
      refine run_qs wt (by rfl) (q_slice_lo (i := i + 1) rfl rfl rfl rfl (by omega)) ?_
      rw [sliced_some (by omega)]
      refine run_whole .here fun raw hrl hrt _ _ => ?_
      (refine run_os wt rfl (opr_extern rfl rfl (u := .bool false) fun w hw => by rw [over_run]; erw [overlaps_own (e := 62) (sz := 2) (.there .here) .here hw (by omega)]; rfl) ?_; rintro _ _ ⟨rfl, rfl⟩)
      have hself := raw_piece (i := i) (k := xs.length - i) hrt (by omega)
      rw [List.take_of_length_le (l := xs.drop i) (by rw [List.length_drop]; exact Nat.le_refl _)] at hself
      have hend := put_end (zs := xs.drop i) (a := i + 1) hrt (by omega) (by rw [hrl, List.length_drop]; omega)
      rw [List.length_drop] at hend
      obtain ⟨raw1, hraw1⟩ : ∃ raw1, raw.take ((i + 1) * 2) ++ flat fE (xs.drop i) ++ raw.drop ((i + 1) * 2 + (xs.length - i) * 2) = raw1 := ⟨_, rfl⟩
      rw [hraw1, show i + 1 + (xs.length - i) = xs.length + 1 from by omega] at hend
      have hyl : (xs.take (i + 1) ++ xs.drop i).length = xs.length + 1 := by rw [List.length_append, List.length_take, List.length_drop]; omega
      rw [← hyl] at hend
      have hin := put_in (zs := [x]) (a := i) hend (by rw [hyl, List.length_singleton]; omega)
      have hys : (xs.take (i + 1) ++ xs.drop i).take i ++ [x] ++ (xs.take (i + 1) ++ xs.drop i).drop (i + [x].length) = xs.take i ++ x :: xs.drop i := by
        have e1 : (xs.take (i + 1) ++ xs.drop i).take i = xs.take i := by rw [List.take_append_of_le_length (by rw [List.length_take]; omega), List.take_take]; congr 1; omega
        have e2 : (xs.take (i + 1) ++ xs.drop i).drop (i + [x].length) = xs.drop i := List.drop_left' (by rw [List.length_take, List.length_singleton]; omega)
        rw [e1, e2]
        simp
      rw [hys, hyl] at hin
      have hraw1l : raw1.length = c * 2 := by
        rw [← hraw1, List.length_append, List.length_append, List.length_take, List.length_drop, flat_fE_len, List.length_drop]
        omega
      (repeat' (first | (apply run_qg 4; (focus rfl); (focus exact wt); (focus rfl); (focus (first | exact qg4 | exact qs4))) | refine cod_seq ?_ | refine run_nil ?_ | refine pst_then ?_ | (apply cod_cond_t; (focus rfl))))
      (refine cod_drawn_ks (Hq := []) [] [] rfl (by kernel_rfl) (by simp only [List.length_cons, List.length_nil, Nat.reduceAdd]; rfl) ?_)
      (repeat' (first | (apply drnK_take 1; (focus rfl); (focus rfl); (focus exact wt); (focus (decide +kernel)); (focus exact hsq); (focus rfl); (focus (exact qg1))) | (apply drnK_take 4; (focus rfl); (focus rfl); (focus exact wt); (focus (decide +kernel)); (focus exact hsq); (focus rfl); (focus (first | exact qg4 | exact qs4))) | (apply drnK_done; (focus (decide +kernel))) | (apply drnK_skip; (focus rfl)) | (apply drnK_wrap; (focus rfl))))
      (refine drnK_at 4 ?_; refine drnK_take _ rfl rfl wt (by decide +kernel) hsq rfl (q_slice_lo (i := i + 1) rfl rfl rfl rfl (by omega)) ?_)
      (repeat' (first | (apply drnK_done; (focus (decide +kernel))) | (apply drnK_skip; (focus rfl))))
      (refine drnK_at 7 ?_; refine drnK_take _ rfl rfl wt (by decide +kernel) hsq rfl (q_slice_lo (i := i) rfl rfl rfl rfl (by omega)) ?_)
      rw [sliced_some (by omega), sliced_some (by omega)]
      (refine drnK_at 8 ?_; (first | refine drnK_ones _ (by rfl) (by rfl) (by kernel_rfl) wt (by rfl) (by exact (opr_copy_self (k := xs.length - i) rfl rfl rfl .here (by show min _ _ = _; omega) (by omega) (by rw [hrl]; omega) (by rw [hself]; exact one_flat _))) ?_ | refine drnK_onen _ (by rfl) (by rfl) (by kernel_rfl) wt (by exact (opr_copy_self (k := xs.length - i) rfl rfl rfl .here (by show min _ _ = _; omega) (by omega) (by rw [hrl]; omega) (by rw [hself]; exact one_flat _))) ?_); rintro _ _ ⟨rfl, rfl⟩; refine ⟨(by first | exact fun h => absurd h (by decide) | exact fun _ => hsq), ?_⟩; (try dsimp only [List.cons_append, List.nil_append]))
      rw [hself, hraw1]
      (repeat' (first | (apply run_qg 1; (focus rfl); (focus exact wt); (focus rfl); (focus (exact qg1))) | refine cod_seq ?_ | refine cod_region ?_ | refine pst_then ?_ | (apply drnK_end; (focus (decide +kernel)))))
      refine run_qs wt (by rfl) (q_slice_lo (i := i) rfl rfl rfl rfl (by omega)) ?_
      rw [sliced_some (by omega)]
      (repeat' (first | (apply run_qg 1; (focus rfl); (focus exact wt); (focus rfl); (focus (exact qg1)))))
      (refine run_os wt rfl (opr_copy_own (k := 1) rfl rfl rfl .here .here (by show min _ _ = _; omega) (by omega) (by show 0 + 1 * 2 ≤ 2; omega) (one_flat [x])) ?_; rintro _ _ ⟨rfl, rfl⟩)
      rw [show (List.take (1 * 2) (List.drop 0 (flat fE [x]))) = flat fE [x] from rfl]
      (repeat' (first | (apply run_qg 1; (focus rfl); (focus exact wt); (focus rfl); (focus (exact qg1))) | refine cod_seq ?_ | refine cod_region ?_ | refine run_nil ?_ | refine pst_then ?_ | refine cod_ret ?_ | refine pst_then_ret ?_))
      refine pst_weak (FSub.refl _) (own_front (m := xs.length + 1) (by omega) hin) ?_
      exact pst_fin rfl (by exact resa) _ (⟨some ⟨g, 0, none⟩, c, rfl, rfl⟩) (by exact hsa)
  · have : i = xs.length := by omega
    subst this
    rw [List.take_length, List.drop_length]
    (refine spec_enter Try.func68 Try.ntmps68 rfl rfl fun Fr => ?_; dsimp only [List.cons_append, List.nil_append, ini, Nat.reduceAdd])
    (repeat' (first | (apply run_qg 1; (focus rfl); (focus exact wt); (focus rfl); (focus (exact qg1))) | refine cod_seq ?_ | refine cod_region ?_ | refine run_nil ?_ | refine pst_then ?_))
    refine run_qs wt (by rfl) (q_slice_lo rfl rfl rfl rfl (by omega)) ?_
    (repeat' (first | (apply run_qg 1; (focus rfl); (focus exact wt); (focus rfl); (focus (exact qg1))) | (apply run_qg 4; (focus rfl); (focus exact wt); (focus rfl); (focus (first | exact qg4 | exact qs4))) | (apply run_qg 6; (focus rfl); (focus exact wt); (focus rfl); (focus (first | exact qs6 | exact qg6 | exact q_max rfl rfl rfl | exact q_sliceData rfl rfl (by omega) | exact q_sliceDataN rfl rfl | exact q_unsafeStringN rfl rfl rfl | exact q_cap_slice rfl rfl))) | refine cod_seq ?_ | refine cod_region ?_ | refine run_nil ?_ | refine pst_then ?_ | (apply cod_cond_t; (focus rfl)) | (apply cod_cond_f; (focus rfl)) | refine cod_skip ?_))
    refine run_heap (pick_sl (f := fE) (ys := [x]) (v := .slice (some ⟨gv, 0, none⟩) 1 1) (.there .here) fE_len rfl) ?_
    (refine run_os wt rfl (opr_append (cnt := 0) (f := fE) (ys := [x]) rfl rfl rfl pka pka fE_len one_fE rfl (by show (xs.length + 1) * 24 ≤ _; omega) (by show xs.length + 1 ≤ maxLen; unfold maxLen; omega)) ?_; rintro _ _ ⟨q2, c2, rfl, rfl⟩)
    (repeat' (first | (apply run_qg 1; (focus rfl); (focus exact wt); (focus rfl); (focus (exact qg1))) | refine run_nil ?_ | refine pst_then ?_ | refine cod_ret ?_ | refine pst_then_ret ?_))
    exact pst_fin rfl (by exact resa) _ (⟨q2, c2, rfl, by rw [flat_appL]⟩) (by exact hsa)
set_option maxRecDepth 100000 in
set_option maxHeartbeats 8000000 in
theorem del_any (q : Option Addr) (c i : Nat) (xs : List DEnt) (hn : xs.length ≤ 24) (hi : i < xs.length) :
    Ct Try.prog 69 [.slice q xs.length c, .int .i64 (i : Int), .int .i64 ((i : Int) + 1)] [own (.slice q xs.length c) 62 2 xs.length (flat fE xs)] fun v H' => ∃ q' c', v = .slice q' (xs.length - 1) c' ∧ H' = [own (.slice q' (xs.length - 1) c') 62 2 (xs.length - 1) (flat fE (xs.take i ++ xs.drop (i + 1)))] := by
  refine ct_own_whole fun hmc hcm hq => ?_
  obtain ⟨g, rfl⟩ : ∃ g, q = some ⟨g, 0, none⟩ := hq.resolve_left (by rintro ⟨_, h⟩; omega)
  clear hq
  unfold maxLen at hcm
  (refine spec_enter Try.func69 Try.ntmps69 rfl rfl fun Fr => ?_; dsimp only [List.cons_append, List.nil_append, ini, Nat.reduceAdd])
  (repeat' (first | (apply run_qg 1; (focus rfl); (focus exact wt); (focus rfl); (focus (exact qg1))) | (apply run_qg 6; (focus rfl); (focus exact wt); (focus rfl); (focus (first | exact qs6 | exact qg6 | exact q_max rfl rfl rfl | exact q_sliceData rfl rfl (by omega) | exact q_sliceDataN rfl rfl | exact q_unsafeStringN rfl rfl rfl | exact q_cap_slice rfl rfl))) | refine cod_seq ?_ | refine cod_region ?_ | refine run_nil ?_ | refine pst_then ?_))
  refine run_qs wt (by rfl) (q_slice3 (i := i) (h := i + 1) (mx := xs.length) rfl rfl rfl rfl rfl rfl rfl rfl (by omega) (by omega) (by omega)) ?_
  (repeat' (first | (apply run_qg 1; (focus rfl); (focus exact wt); (focus rfl); (focus (exact qg1))) | (apply run_qg 4; (focus rfl); (focus exact wt); (focus rfl); (focus (first | exact qg4 | exact qs4))) | (apply run_qg 6; (focus rfl); (focus exact wt); (focus rfl); (focus (first | exact qs6 | exact qg6 | exact q_max rfl rfl rfl | exact q_sliceData rfl rfl (by omega) | exact q_sliceDataN rfl rfl | exact q_unsafeStringN rfl rfl rfl | exact q_cap_slice rfl rfl))) | refine cod_seq ?_ | refine cod_region ?_ | refine run_nil ?_ | refine pst_then ?_ | (apply cod_cond_f; (focus rfl)) | refine cod_skip ?_))
  refine cod_whole .here fun raw hrl hrt _ _ => ?_
  have hsrc := raw_piece (i := i + 1) (k := xs.length - (i + 1)) hrt (by omega)
  rw [List.take_of_length_le (l := xs.drop (i + 1)) (by rw [List.length_drop]; exact Nat.le_refl _)] at hsrc
  have hend := put_end (zs := xs.drop (i + 1)) (a := i) hrt (by omega) (by rw [hrl, List.length_drop]; omega)
  rw [List.length_drop] at hend
  obtain ⟨raw1, hraw1⟩ : ∃ raw1, raw.take (i * 2) ++ flat fE (xs.drop (i + 1)) ++ raw.drop (i * 2 + (xs.length - (i + 1)) * 2) = raw1 := ⟨_, rfl⟩
  rw [hraw1, show i + (xs.length - (i + 1)) = xs.length - 1 from by omega] at hend
  have hraw1l : raw1.length = c * 2 := by
    rw [← hraw1, List.length_append, List.length_append, List.length_take, List.length_drop, flat_fE_len, List.length_drop]
    omega
  have hfin : (raw1.take ((xs.length - 1) * 2) ++ zrow (.agg #[.string ⟨#[]⟩, .int .i64 0]) 1 ++ raw1.drop ((xs.length - 1) * 2 + 1 * 2)).take ((xs.length - 1) * 2) = flat fE (xs.take i ++ xs.drop (i + 1)) := by
    rw [List.append_assoc, List.take_left' (by rw [List.length_take]; omega), hend]
  (refine cod_drawn_ks (Hq := []) [] [] rfl (by kernel_rfl) (by simp only [List.length_cons, List.length_nil, Nat.reduceAdd]; rfl) ?_)
  (repeat' (first | (apply drnK_take 1; (focus rfl); (focus rfl); (focus exact wt); (focus (decide +kernel)); (focus exact hsq); (focus rfl); (focus (exact qg1))) | (apply drnK_take 12; (focus rfl); (focus rfl); (focus exact wt); (focus (decide +kernel)); (focus exact hsq); (focus rfl); (focus (first | exact qs12 | exact q_cutp rfl rfl rfl rfl (by omega) (by omega) | exact q_slice_cap rfl rfl rfl rfl (by omega)))) | (apply drnK_done; (focus (decide +kernel))) | (apply drnK_skip; (focus rfl)) | (apply drnK_wrap; (focus rfl))))
  (refine drnK_at 5 ?_; refine drnK_take _ rfl rfl wt (by decide +kernel) hsq rfl (q_slice_lo (i := i + 1) rfl rfl rfl rfl (by omega)) ?_)
  rcases Nat.lt_or_ge (i + 1) c with hic | hic
  · rw [sliced_some hic]
    (refine drnK_at 6 ?_; (first | refine drnK_ones _ (by rfl) (by rfl) (by kernel_rfl) wt (by rfl) (by exact (opr_append_self rfl rfl rfl .here (by omega) (by rw [hrl]; omega) (by rw [hsrc]; exact one_flat _))) ?_ | refine drnK_onen _ (by rfl) (by rfl) (by kernel_rfl) wt (by exact (opr_append_self rfl rfl rfl .here (by omega) (by rw [hrl]; omega) (by rw [hsrc]; exact one_flat _))) ?_); rintro _ _ ⟨rfl, rfl⟩; refine ⟨(by first | exact fun h => absurd h (by decide) | exact fun _ => hsq), ?_⟩; (try dsimp only [List.cons_append, List.nil_append]))
    rw [hsrc, hraw1, show i + (xs.length - (i + 1)) = xs.length - 1 from by omega]
    (repeat' (first | (apply run_qg 1; (focus rfl); (focus exact wt); (focus rfl); (focus (exact qg1))) | (apply run_qg 6; (focus rfl); (focus exact wt); (focus rfl); (focus (first | exact qs6 | exact qg6 | exact q_max rfl rfl rfl | exact q_sliceData rfl rfl (by omega) | exact q_sliceDataN rfl rfl | exact q_unsafeStringN rfl rfl rfl | exact q_cap_slice rfl rfl))) | refine cod_seq ?_ | refine cod_region ?_ | refine pst_then ?_ | (apply drnK_take 1; (focus rfl); (focus rfl); (focus exact wt); (focus (decide +kernel)); (focus exact hsq); (focus rfl); (focus (exact qg1))) | (apply drnK_end; (focus (decide +kernel)))))
    refine run_qs wt (by rfl) (q_slice_lh (i := xs.length - 1) (h := xs.length) rfl rfl rfl rfl (by omega) rfl (by omega) (by omega)) ?_
    rw [sliced_some (by omega), show xs.length - (xs.length - 1) = 1 from by omega]
    (refine run_on wt (opr_clear_row rfl rfl .here (by omega) (by omega) (by decide) rfl) ?_; rintro _ _ ⟨rfl, rfl⟩)
    (repeat' (first | (apply run_qg 1; (focus rfl); (focus exact wt); (focus rfl); (focus (exact qg1))) | refine cod_seq ?_ | refine cod_region ?_ | refine run_nil ?_ | refine pst_then ?_ | refine cod_ret ?_))
    refine pst_weak (FSub.refl _) (own_front (m := xs.length - 1) (by omega) hfin) ?_
    exact pst_fin rfl (by exact resa) _ (⟨some ⟨g, 0, none⟩, c, rfl, rfl⟩) (by exact hsa)
  · have hci : c = i + 1 := by omega
    have hxi : xs.length = i + 1 := by omega
    rw [show sliced (some ⟨g, 0, none⟩) (i + 1) xs.length c 2 = .slice (some ⟨g, 0, none⟩) 0 0 from by rw [← hci, sliced_end, hxi, ← hci, Nat.sub_self]]
    (refine drnK_at 6 ?_; (first | refine drnK_ones _ (by rfl) (by rfl) (by kernel_rfl) wt (by rfl) (by exact (opr_append_self rfl rfl rfl .here (by omega) (by omega) (by intro v hv; simp at hv))) ?_ | refine drnK_onen _ (by rfl) (by rfl) (by kernel_rfl) wt (by exact (opr_append_self rfl rfl rfl .here (by omega) (by omega) (by intro v hv; simp at hv))) ?_); rintro _ _ ⟨rfl, rfl⟩; refine ⟨(by first | exact fun h => absurd h (by decide) | exact fun _ => hsq), ?_⟩; (try dsimp only [List.cons_append, List.nil_append]))
    rw [show raw.take (i * 2) ++ (raw.drop 0).take (0 * 2) ++ raw.drop (i * 2 + 0 * 2) = raw1 from by rw [← hraw1, show xs.drop (i + 1) = [] from List.drop_eq_nil_of_le (by omega), hxi]; simp [flat], show i + 0 = xs.length - 1 from by omega]
    (repeat' (first | (apply run_qg 1; (focus rfl); (focus exact wt); (focus rfl); (focus (exact qg1))) | (apply run_qg 6; (focus rfl); (focus exact wt); (focus rfl); (focus (first | exact qs6 | exact qg6 | exact q_max rfl rfl rfl | exact q_sliceData rfl rfl (by omega) | exact q_sliceDataN rfl rfl | exact q_unsafeStringN rfl rfl rfl | exact q_cap_slice rfl rfl))) | refine cod_seq ?_ | refine cod_region ?_ | refine pst_then ?_ | (apply drnK_take 1; (focus rfl); (focus rfl); (focus exact wt); (focus (decide +kernel)); (focus exact hsq); (focus rfl); (focus (exact qg1))) | (apply drnK_end; (focus (decide +kernel)))))
    refine run_qs wt (by rfl) (q_slice_lh (i := xs.length - 1) (h := xs.length) rfl rfl rfl rfl (by omega) rfl (by omega) (by omega)) ?_
    rw [sliced_some (by omega), show xs.length - (xs.length - 1) = 1 from by omega]
    (refine run_on wt (opr_clear_row rfl rfl .here (by omega) (by omega) (by decide) rfl) ?_; rintro _ _ ⟨rfl, rfl⟩)
    (repeat' (first | (apply run_qg 1; (focus rfl); (focus exact wt); (focus rfl); (focus (exact qg1))) | refine cod_seq ?_ | refine cod_region ?_ | refine run_nil ?_ | refine pst_then ?_ | refine cod_ret ?_))
    refine pst_weak (FSub.refl _) (own_front (m := xs.length - 1) (by omega) hfin) ?_
    exact pst_fin rfl (by exact resa) _ (⟨some ⟨g, 0, none⟩, c, rfl, rfl⟩) (by exact hsa)
end Go.Proofs.Ytknclflgghnojaa.dir
