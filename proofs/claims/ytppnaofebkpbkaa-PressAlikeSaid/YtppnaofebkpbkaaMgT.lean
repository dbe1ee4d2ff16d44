/-
  Several texts in one: PressMark, PressOpn, Press, PressBk.
-/
import Derived.Test.YtppnaofebkpbkaaMgP
import Derived.Test.YtppnaofebkpbkaaShelf
import Derived.Test.YtppnaofebkpbkaaMgH
import Derived.Test.YtppnaofebkpbkaaMgL
import Derived.Test.YtppnaofebkpbkaaMgB
import Derived.Test.YtppnaofebkpbkaaSlMany2
import Derived.Test.YtppnaofebkpbkaaWithin
/-
  press.sign, press.best, press.marked: the walks. (SAFE)
-/
namespace Go.Proofs.Ytppnaofebkpbkaa.press
open Go.RowKit kit sl Go.Proofs.Ytppnaofebkpbkaa.put Go.Proofs.Ytppnaofebkpbkaa.code
set_option linter.unusedVariables false
theorem badX_none : ∀ {O : List Int}, (∀ o ∈ O, 0 ≤ o ∧ o ≤ 15) → runs.badX O = false
  | [], _ => rfl
  | o :: O, h => by
    have h1 := h o List.mem_cons_self
    rw [runs.badX, if_neg (by omega)]
    exact badX_none fun x hx => h x (List.mem_cons_of_mem _ hx)
theorem wf_15 {x : Int} (h : 0 ≤ x ∧ x ≤ 15) : (Lit.int .i64 x).wf = true := by
  simp [Lit.wf, IntKind.min, IntKind.max, IntKind.signed, IntKind.bits]
  omega
theorem rw_ct (q : Option Addr) (c : Nat) (xs : List Int) {n : Nat} (hn : xs.length = n) (h : lens.canonE xs = 0) : Ct Try.prog 42 [.slice q n c] [sl 1 (.slice q n c) (xs.map fI)] fun v H' => v = .tuple #[.string (str (runs.writeB xs)), .int .i64 0] ∧ H' = [] := by
  obtain ⟨h1, h2⟩ := canon_good h
  have e : runs.writeErr xs = 0 := by unfold runs.writeErr; rw [if_neg (by omega), badX_none h2, if_neg (by decide)]
  refine ct_of_calls fun W hW => (runs.write_any _ xs W (hW.head : SliceAt W 1 _ (xs.map fI)) (fun x hx => wf_15 (h2 x hx)) (by omega)).mono fun e' w' ⟨h3, h4⟩ => ⟨?_, h4⟩
  rw [h3, e, runs.writeS, if_pos e]
  rfl
theorem pack_ct (q : Option Addr) (c : Nat) (xs : List (Int × Int)) (h : ∀ p ∈ xs, ∃ a v : Nat, a < 2 ^ v ∧ v ≤ 15 ∧ p = ((a : Int), (v : Int))) (he : bits.packErr xs = 0) (hn : xs.length ≤ 100000000000000000) : Ct Try.prog 43 [.slice q xs.length c] [sl 2 (.slice q xs.length c) (xs.map fPc)] fun v H' => v = .tuple #[.string (str (bits.packB xs)), .int .i64 0] ∧ H' = [] := by
  refine ct_of_calls fun W hW => (bits.pack_any _ xs W (hW.head : SliceAt W 2 _ (xs.map fPc)) (fun p hp => ?_) hn).mono fun e' w' ⟨h3, h4⟩ => ⟨?_, h4⟩
  · obtain ⟨a, v, h1, h2, rfl⟩ := h p hp
    have h3 : 2 ^ v ≤ 2 ^ 15 := Nat.pow_le_pow_right (by decide) h2
    refine ⟨?_, wf_15 ⟨by omega, by omega⟩⟩
    simp [Lit.wf, IntKind.min, IntKind.max, IntKind.signed, IntKind.bits]
    omega
  · rw [h3, he, bits.packS, if_pos he]
    rfl
theorem len_ct (n : Nat) (h : n < 1000000) : Ct Try.prog 60 [.int .u64 (n : Int)] [] fun v H' => v = .int .i64 (Lib.bitLen n : Int) ∧ H' = [] :=
  ct_of_calls fun W _ => (Try.bits_Len (n : Int) W (by omega) (by omega)).mono fun e' w' ⟨h1, h2⟩ => ⟨by rw [h1, Int.toNat_natCast], by rw [h2]; exact Below.refl _ _⟩
def markV (m : Mk) : Value := .agg #[.int .i64 m.1, .int .i64 m.2.1, .int .u8 m.2.2]
def signV (m : Mk) : Int := if m.1 = 0 then -1 else (logD m.2.1 : Int)
attribute [local irreducible] box own sl old bptr eptr Qt Opr Run Cod Pst Drn
set_option maxRecDepth 100000 in
set_option maxHeartbeats 8000000 in
theorem sign_byte (b : Int) (h0 : 0 ≤ b) (h1 : b ≤ 255) : Ct Try.prog 39 [.agg #[.int .i64 0, .int .i64 0, .int .u8 b]] [] fun v H' => v = .tuple #[.int .i64 b, .int .i64 (-1)] ∧ H' = [] := by
  (refine spec_enter Try.func39 Try.ntmps39 rfl rfl fun Fr => ?_; dsimp only [List.cons_append, List.nil_append, ini, Nat.reduceAdd])
  (repeat' (first | (apply run_qg 1; (focus rfl); (focus exact wt); (focus rfl); (focus (exact qg1))) | (apply run_qg 2; (focus rfl); (focus exact wt); (focus rfl); (focus (first | exact qg2 | exact qs2))) | (apply run_qg 3; (focus rfl); (focus exact wt); (focus rfl); (focus (first | exact qg3 | exact qs3))) | (apply run_qg 4; (focus rfl); (focus exact wt); (focus rfl); (focus (first | exact qg4 | exact qs4))) | (apply run_qg 11; (focus rfl); (focus exact wt); (focus rfl); (focus (exact qs11))) | refine cod_seq ?_ | refine cod_region ?_ | refine run_nil ?_ | refine pst_then ?_ | (apply cod_cond_t; (focus rfl)) | refine cod_ret ?_ | refine pst_then_ret ?_ | (apply run_osg 8; (focus rfl); (focus exact wt); (focus rfl); (focus (exact opr_box_agg rfl rfl)); (rintro _ _ ⟨b, rfl, rfl⟩)) | fail))
  exact pst_fin rfl (by exact resa) _ (⟨rfl, rfl⟩) (by exact hsa)
set_option maxRecDepth 100000 in
set_option maxHeartbeats 8000000 in
theorem sign_copy (n d : Nat) (h0 : 3 ≤ n) (h1 : n ≤ 66) (h2 : 1 ≤ d) (h3 : d ≤ 511) : Ct Try.prog 39 [.agg #[.int .i64 (n : Int), .int .i64 (d : Int), .int .u8 0]] [] fun v H' => v = .tuple #[.int .i64 ((253 + n : Nat) : Int), .int .i64 (logD (d : Int) : Int)] ∧ H' = [] := by
  have L0 := len_ct d (by omega)
  obtain ⟨a1, a2, a3, a4⟩ := logD_is (d := (d : Int)) (by omega) (by omega)
  rw [Int.toNat_natCast] at a2
  generalize Lib.bitLen d = bl at *
  generalize logD (d : Int) = y at *
  have e1 : (256 : Int) + (n : Int) - 3 = ((253 + n : Nat) : Int) := by omega
  (refine spec_enter Try.func39 Try.ntmps39 rfl rfl fun Fr => ?_; dsimp only [List.cons_append, List.nil_append, ini, Nat.reduceAdd])
  (repeat' (first | (apply run_qg 1; (focus rfl); (focus exact wt); (focus rfl); (focus (exact qg1))) | (apply run_qg 2; (focus rfl); (focus exact wt); (focus rfl); (focus (first | exact qg2 | exact qs2))) | (apply run_qg 3; (focus rfl); (focus exact wt); (focus rfl); (focus (first | exact qg3 | exact qs3))) | (apply run_qg 4; (focus rfl); (focus exact wt); (focus rfl); (focus (first | exact qg4 | exact qs4))) | refine cod_seq ?_ | refine cod_region ?_ | refine run_nil ?_ | refine pst_then ?_ | (apply cod_cond_f; (focus rfl)) | refine cod_ret ?_ | refine cod_skip ?_ | (apply run_osg 8; (focus rfl); (focus exact wt); (focus rfl); (focus (exact opr_box_agg rfl rfl)); (rintro _ _ ⟨b, rfl, rfl⟩)) | (apply cod_drawn_k; (focus kernel_rfl); (focus (simp only [List.length_cons, List.length_nil, Nat.reduceAdd]; rfl))) | (apply drnK_take 1; (focus rfl); (focus rfl); (focus exact wt); (focus (decide +kernel)); (focus exact hsq); (focus rfl); (focus (exact qg1))) | (apply drnK_take 2; (focus rfl); (focus rfl); (focus exact wt); (focus (decide +kernel)); (focus exact hsq); (focus rfl); (focus (first | exact qg2 | exact qs2))) | (apply drnK_take 3; (focus rfl); (focus rfl); (focus exact wt); (focus (decide +kernel)); (focus exact hsq); (focus rfl); (focus (first | exact qg3 | exact qs3))) | (apply drnK_take 4; (focus rfl); (focus rfl); (focus exact wt); (focus (decide +kernel)); (focus exact hsq); (focus rfl); (focus (first | exact qg4 | exact qs4))) | (apply drnK_take 11; (focus rfl); (focus rfl); (focus exact wt); (focus (decide +kernel)); (focus exact hsq); (focus rfl); (focus (exact qs11))) | (apply drnK_end; (focus (decide +kernel))) | (apply drnK_ones 7; (focus rfl); (focus rfl); (focus (decide +kernel)); (focus exact wt); (focus rfl); (focus (exact opr_call_ls (by rfl) (L0 ..) (by rfl) lpa)); (rintro _ _ ⟨rfl, rfl⟩; refine ⟨(by first | exact fun h => absurd h (by decide) | exact fun _ => hsq), ?_⟩)) | fail))
  exact pst_fin rfl (by exact resa) _ (⟨by rw [e1, a2], rfl⟩) (by exact hsa)
theorem sign_ct {m : Mk} (h : MarkOk m) : Ct Try.prog 39 [.agg (fIIU m).toArray] [] fun v H' => v = .tuple #[.int .i64 (signX m : Int), .int .i64 (signV m)] ∧ H' = [] := by
  obtain ⟨n, d, b⟩ := m
  rcases h with ⟨h1, h2, h3, h4⟩ | ⟨h1, h2, h3, h4, h5⟩
  · dsimp only at h1 h2 h3 h4
    subst h1
    subst h2
    have e : ((signX (0, 0, b) : Nat) : Int) = b := by unfold signX; rw [if_pos rfl]; exact Int.toNat_of_nonneg h3
    have e2 : signV (0, 0, b) = -1 := by unfold signV; rw [if_pos rfl]
    rw [e, e2]
    exact sign_byte b h3 h4
  · dsimp only at h1 h2 h3 h4 h5
    subst h5
    obtain ⟨n, rfl⟩ := Int.eq_ofNat_of_zero_le (by omega : 0 ≤ n)
    obtain ⟨d, rfl⟩ := Int.eq_ofNat_of_zero_le (by omega : 0 ≤ d)
    have e : signX ((n : Int), (d : Int), 0) = 253 + n := by unfold signX; rw [if_neg (by dsimp only; omega)]; rfl
    have e2 : signV ((n : Int), (d : Int), 0) = (logD (d : Int) : Int) := by unfold signV; rw [if_neg (by dsimp only; omega)]
    rw [e, e2]
    exact sign_copy n d (by omega) (by omega) (by omega) (by omega)
set_option maxRecDepth 100000 in
set_option maxHeartbeats 8000000 in
theorem best_ct (q : Option Addr) (c : Nat) (F : List Int) (n : Nat) (hn : F.length = n) (hg : huff.GoodF F) : Ct Try.prog 40 [.slice q n c] [sl 1 (.slice q n c) (F.map fI)] fun v H' => ∃ q' c', v = .slice q' n c' ∧ H' = [own (.slice q' n c') 3 1 n (flat fI (huff.lensL F 15))] := by
  have h := lens_zero hg
  have LN := huff.lens_any q c F 15 (by have := hg.1; omega)
  rw [hn] at LN
  have LN : Ct Try.prog 9 [.slice q n c, .int .i64 15] [sl 1 (.slice q n c) (F.map fI)] fun v H' => ∃ q' c', v = .tuple #[.slice q' n c', .int .i64 0] ∧ H' = [own (.slice q' n c') 3 1 n (flat fI (huff.lensL F 15))] := ct_imp LN fun v H' h2 => by
    rcases h2 with ⟨_, h3⟩ | ⟨h3, _⟩
    · rw [hn] at h3; exact h3
    · exact absurd h h3
  clear h
  (refine spec_enter Try.func40 Try.ntmps40 rfl rfl fun Fr => ?_; dsimp only [List.cons_append, List.nil_append, ini, Nat.reduceAdd])
  (repeat' (first | (apply run_qg 1; (focus rfl); (focus exact wt); (focus rfl); (focus (exact qg1))) | refine cod_seq ?_ | refine cod_region ?_ | refine run_nil ?_ | refine pst_then ?_ | fail))
  (refine run_os wt rfl (opr_call_l rfl (LN) rfl (by exact lpa)) ?_; rintro _ _ ⟨_, ⟨q1, c1, rfl, rfl⟩, rfl⟩; dsimp only [List.cons_append, List.nil_append])
  (repeat' (first | (apply run_qg 1; (focus rfl); (focus exact wt); (focus rfl); (focus (exact qg1))) | refine cod_seq ?_ | refine cod_region ?_ | refine run_nil ?_ | refine pst_then ?_ | refine cod_ret ?_ | fail))
  exact pst_fin rfl (by exact resa) _ (⟨q1, c1, rfl, rfl⟩) (by exact hsa)
theorem take_next {α : Type} {l : List α} {k : Nat} {x : α} (h : l[k]? = some x) : l.take (k + 1) = l.take k ++ [x] := by
  rw [List.take_add_one, h]
  rfl
theorem word_ct (q : Option Addr) (c : Nat) (A : List Int) {n : Nat} (hn : A.length = n) (hc : lens.canonE A = 0) {x : Nat} (hx : code.hasC A (x : Int)) (qs : Option Addr) (cs : Nat) :
    Ct Try.prog 41 [.slice q n c, .slice qs 1 cs] [sl 1 (.slice q n c) (A.map fI), sl 1 (.slice qs 1 cs) ([(x : Int)].map fI)] fun v H' => ∃ q2 c2, v = .tuple #[.slice q2 1 c2, .int .i64 0] ∧ H' = [own (.slice q2 1 c2) 77 2 1 (flat fPc [code.pieceC A (x : Int)])] := by
  obtain ⟨h1, h2⟩ := canon_good hc
  have W0 := code.write_any q qs c cs A [(x : Int)] (fun x hx => wf_15 (h2 x hx)) (by omega) (by show 1 ≤ 1000000; decide)
  have e : code.writeV A [(x : Int)] = ([code.pieceC A (x : Int)], 0) := by
    unfold code.writeV
    rw [if_pos hc, code.wrF, if_pos hx, code.wrF]
    rfl
  rw [e, hn] at W0
  exact W0
theorem one_fPc' (p : Int × Int) : ∀ u ∈ fPc p, u.oneCell' = true := by simp [fPc, Value.oneCell']
set_option maxRecDepth 100000 in
set_option maxHeartbeats 8000000 in
theorem marked_any (s : List UInt8) (hs : s.length ≤ 512) : Ct Try.prog 27 [.string (str s)] [] fun v H' => ∃ out, lz.Found s out ∧ v = .string (str (markedB s out)) ∧ H' = [] := by
  have F0 := lz.find_ct s hs
  (refine spec_enter Try.func27 Try.ntmps27 rfl rfl fun Fr => ?_; dsimp only [List.cons_append, List.nil_append, ini, Nat.reduceAdd])
  (repeat' (first | (apply run_qg 1; (focus rfl); (focus exact wt); (focus rfl); (focus (exact qg1))) | refine cod_seq ?_ | refine cod_region ?_ | refine run_nil ?_ | refine pst_then ?_ | fail))
  (refine run_os wt rfl (opr_call_l rfl (F0) rfl (by exact lpa)) ?_; rintro _ _ ⟨_, ⟨out, q1, c1, hF, rfl, rfl⟩, rfl⟩; dsimp only [List.cons_append, List.nil_append])
  have hok := marks_ok out [] s hF.2.1 hF.1
  have hol := hF.2.2.1
  have hCo := codes_of hok hol
  (repeat' (first | (apply run_qg 1; (focus rfl); (focus exact wt); (focus rfl); (focus (exact qg1))) | refine cod_seq ?_ | refine run_nil ?_ | refine pst_then ?_ | fail))
  refine cod_cut_drop 0 (σ := Option Addr × Option Addr) (fun _ => True) (fun x => [(5, .slice x.1 320 320), (6, .slice x.2 9 9)]) (fun x => [own (.slice x.1 320 320) 3 1 320 (flat fI (freqX (out.take 0))), own (.slice x.2 9 9) 3 1 9 (flat fI (freqY (out.take 0)))]) ?_ ?_ <;> dsimp only [List.drop]
  · rw [show freqX (out.take 0) = List.replicate 320 (0 : Int) from (rowN_zero 320).symm, show freqY (out.take 0) = List.replicate 9 (0 : Int) from (rowN_zero 9).symm]
    (refine cod_drawn_ks (Hq := []) [] [] rfl (by kernel_rfl) (by simp only [List.length_cons, List.length_nil, Nat.reduceAdd]; rfl) ?_)
    (refine drnK_at 0 ?_; refine drnK_two 1 (by kernel_rfl) ?_ ?_)
    · ((first | refine drnI_s 1 0 (by rfl) wt (by rfl) (by exact (opr_make (fI) (0) (c := 320) rfl rfl rfl (by first | rfl | omega) (by first | rfl | omega) rfl rfl (by omega) (by (unfold maxLen); omega))) ?_ | refine drnI_n 1 0 (by rfl) wt (by exact (opr_make (fI) (0) (c := 320) rfl rfl rfl (by first | rfl | omega) (by first | rfl | omega) rfl rfl (by omega) (by (unfold maxLen); omega))) ?_); rintro _ _ ⟨q3, rfl, rfl⟩; refine ⟨(by first | exact fun h => absurd h (by decide) | exact fun _ => hsq), ?_⟩; (try dsimp only [List.cons_append, List.nil_append]))
      (repeat' (first | (apply drnK_take 1; (focus rfl); (focus rfl); (focus exact wt); (focus (decide +kernel)); (focus exact hsq); (focus rfl); (focus (exact qg1))) | (apply drnK_done; (focus (decide +kernel))) | (apply drnK_skip; (focus rfl)) | (apply drnK_wrap; (focus rfl)) | fail))
      (refine drnK_at 1 ?_; (first | refine drnK_ones _ (by rfl) (by rfl) (by kernel_rfl) wt (by rfl) (by exact (opr_make (fI) (0) (c := 9) rfl rfl rfl (by first | rfl | omega) (by first | rfl | omega) rfl rfl (by omega) (by (unfold maxLen); omega))) ?_ | refine drnK_onen _ (by rfl) (by rfl) (by kernel_rfl) wt (by exact (opr_make (fI) (0) (c := 9) rfl rfl rfl (by first | rfl | omega) (by first | rfl | omega) rfl rfl (by omega) (by (unfold maxLen); omega))) ?_); rintro _ _ ⟨q4, rfl, rfl⟩; refine ⟨(by first | exact fun h => absurd h (by decide) | exact fun _ => hsq), ?_⟩; (try dsimp only [List.cons_append, List.nil_append]))
      (repeat' (first | (apply drnK_take 1; (focus rfl); (focus rfl); (focus exact wt); (focus (decide +kernel)); (focus exact hsq); (focus rfl); (focus (exact qg1))) | (apply drnK_end; (focus (decide +kernel))) | (apply drnK_done; (focus (decide +kernel))) | fail))
      exact pst_cut ((q3, q4)) (by trivial) (FSub.of fsa) hsa
    · ((first | refine drnI_s 1 1 (by rfl) wt (by rfl) (by exact (opr_make (fI) (0) (c := 9) rfl rfl rfl (by first | rfl | omega) (by first | rfl | omega) rfl rfl (by omega) (by (unfold maxLen); omega))) ?_ | refine drnI_n 1 1 (by rfl) wt (by exact (opr_make (fI) (0) (c := 9) rfl rfl rfl (by first | rfl | omega) (by first | rfl | omega) rfl rfl (by omega) (by (unfold maxLen); omega))) ?_); rintro _ _ ⟨q4, rfl, rfl⟩; refine ⟨(by first | exact fun h => absurd h (by decide) | exact fun _ => hsq), ?_⟩; (try dsimp only [List.cons_append, List.nil_append]))
      (repeat' (first | (apply drnK_done; (focus (decide +kernel))) | (apply drnK_skip; (focus rfl)) | (apply drnK_wrap; (focus rfl)) | fail))
      (refine drnK_at 0 ?_; (first | refine drnK_ones _ (by rfl) (by rfl) (by kernel_rfl) wt (by rfl) (by exact (opr_make (fI) (0) (c := 320) rfl rfl rfl (by first | rfl | omega) (by first | rfl | omega) rfl rfl (by omega) (by (unfold maxLen); omega))) ?_ | refine drnK_onen _ (by rfl) (by rfl) (by kernel_rfl) wt (by exact (opr_make (fI) (0) (c := 320) rfl rfl rfl (by first | rfl | omega) (by first | rfl | omega) rfl rfl (by omega) (by (unfold maxLen); omega))) ?_); rintro _ _ ⟨q3, rfl, rfl⟩; refine ⟨(by first | exact fun h => absurd h (by decide) | exact fun _ => hsq), ?_⟩; (try dsimp only [List.cons_append, List.nil_append]))
      (repeat' (first | (apply drnK_take 1; (focus rfl); (focus rfl); (focus exact wt); (focus (decide +kernel)); (focus exact hsq); (focus rfl); (focus (exact qg1))) | (apply drnK_end; (focus (decide +kernel))) | (apply drnK_done; (focus (decide +kernel))) | fail))
      exact pst_cut ((q3, q4)) (by trivial) (FSub.of fsa) hsa
  rintro ⟨q3, q4⟩ _
  dsimp only [List.cons_append, List.nil_append]
  (repeat' (first | (apply run_qg 1; (focus rfl); (focus exact wt); (focus rfl); (focus (exact qg1))) | (apply run_qg 6; (focus rfl); (focus exact wt); (focus rfl); (focus (first | exact qs6 | exact qg6 | exact q_max rfl rfl rfl | exact q_sliceData rfl rfl (by omega) | exact q_sliceDataN rfl rfl | exact q_unsafeStringN rfl rfl rfl | exact q_cap_slice rfl rfl))) | refine cod_seq ?_ | refine cod_region ?_ | refine run_nil ?_ | refine pst_then ?_ | refine cod_block ?_ | fail))
  (refine cod_loop_rw (σ := Nat) (fun k => k ≤ out.length) (fun k => [(35, .int .i64 (k : Int))]) (fun k => [own (.slice q3 320 320) 3 1 320 (flat fI (freqX (out.take k))), own (.slice q4 9 9) 3 1 9 (flat fI (freqY (out.take k)))]) _ (fun k => out.length - k) (0) (by exact Nat.zero_le _) (by exact fsa) (by (first | exact HSub.of_picks_rest (by exact pca))) (fun k hk => ?_); dsimp only [List.cons_append, List.nil_append])
  rcases get_or out k with ⟨m, hm, hlt⟩ | hge
  · have hmo := hok m (List.mem_of_getElem? hm)
    have S0 := sign_ct hmo
    have hx := signX_lt hmo
    have hax : (freqX (out.take k))[signX m]? = some ((cntX (out.take k) (signX m) : Nat) : Int) := rowN_at _ hx
    have hcx := cntX_le (out.take k) (signX m)
    rw [List.length_take] at hcx
    have hxl : (freqX (out.take k)).length = 320 := rowN_len _ _
    have hsx : (freqX (out.take k)).set (signX m) (((cntX (out.take k) (signX m) : Nat) : Int) + 1) = freqX (out.take (k + 1)) := by
      rw [take_next hm]
      unfold freqX
      rw [cntX_next]
      exact rowN_set _ _ hx
    by_cases h0 : m.1 = 0
    · have hsv : signV m = -1 := by unfold signV; rw [if_pos h0]
      have hsy : freqY (out.take (k + 1)) = freqY (out.take k) := by
        rw [take_next hm]
        unfold freqY
        rw [cntY_byte _ _ h0]
      rw [hsv] at S0
      generalize cntX (out.take k) (signX m) = cx at *
      (repeat' (first | (apply run_qg 1; (focus rfl); (focus exact wt); (focus rfl); (focus (exact qg1))) | (apply run_qg 2; (focus rfl); (focus exact wt); (focus rfl); (focus (first | exact qg2 | exact qs2))) | (apply run_qg 3; (focus rfl); (focus exact wt); (focus rfl); (focus (first | exact qg3 | exact qs3))) | (apply run_qg 4; (focus rfl); (focus exact wt); (focus rfl); (focus (first | exact qg4 | exact qs4))) | refine cod_seq ?_ | refine cod_region ?_ | refine run_nil ?_ | refine pst_then ?_ | (apply cod_cond_t; (focus rfl)) | refine cod_block ?_ | refine cod_skip ?_ | (apply run_osg 8; (focus rfl); (focus exact wt); (focus rfl); (focus (exact opr_new rfl)); (rintro _ _ ⟨b, rfl, rfl⟩)) | (apply run_ong 9; (focus rfl); (focus exact wt); (focus (exact opr_store_box_agg rfl rfl rfl (by exact pka) rfl rfl rfl (by exact spla))); (rintro _ _ ⟨rfl, rfl⟩)) | (apply run_osg 7; (focus rfl); (focus exact wt); (focus rfl); (focus (exact opr_call_ls (by rfl) (S0 ..) (by rfl) lpa)); (rintro _ _ ⟨rfl, rfl⟩)) | fail))
      (refine run_on wt (opr_store_ownm (f := fI) (q' := (cx : Int) + 1) rfl rfl rfl rfl (by exact pka) rfl (by omega) (by intro _; rfl) (by assumption) rfl rfl (by rfl)) ?_; rintro _ _ ⟨rfl, rfl⟩)
      rw [hsx, ← hsy]
      (repeat' (first | (apply run_qg 1; (focus rfl); (focus exact wt); (focus rfl); (focus (exact qg1))) | (apply run_qg 4; (focus rfl); (focus exact wt); (focus rfl); (focus (first | exact qg4 | exact qs4))) | refine cod_seq ?_ | refine cod_region ?_ | refine run_nil ?_ | refine pst_then ?_ | (apply cod_cond_f; (focus rfl)) | refine cod_skip ?_ | refine pst_block ?_ | fail))
      refine pst_again (k + 1) ?_ (FSub.of (by (try dsimp only); exact fsa)) (by (try dsimp only); exact hsa) ?_
      · exact hlt
      · show out.length - (k + 1) < out.length - k
        omega
    · have hsv : signV m = ((logD m.2.1 : Nat) : Int) := by unfold signV; rw [if_neg h0]
      have hyl : logD m.2.1 < 9 := by
        rcases hmo with ⟨h1, _⟩ | ⟨h1, h2, h3, h4, _⟩
        · exact absurd h1 h0
        · exact (logD_is h3 h4).1
      have hay : (freqY (out.take k))[logD m.2.1]? = some ((cntY (out.take k) (logD m.2.1) : Nat) : Int) := rowN_at _ hyl
      have hcy := cntY_le (out.take k) (logD m.2.1)
      rw [List.length_take] at hcy
      have hsy : (freqY (out.take k)).set (logD m.2.1) (((cntY (out.take k) (logD m.2.1) : Nat) : Int) + 1) = freqY (out.take (k + 1)) := by
        rw [take_next hm]
        unfold freqY
        rw [cntY_copy _ _ h0]
        exact rowN_set _ _ hyl
      rw [hsv] at S0
      generalize cntX (out.take k) (signX m) = cx at *
      generalize cntY (out.take k) (logD m.2.1) = cy at *
      generalize logD m.2.1 = y at *
      (repeat' (first | (apply run_qg 1; (focus rfl); (focus exact wt); (focus rfl); (focus (exact qg1))) | (apply run_qg 2; (focus rfl); (focus exact wt); (focus rfl); (focus (first | exact qg2 | exact qs2))) | (apply run_qg 3; (focus rfl); (focus exact wt); (focus rfl); (focus (first | exact qg3 | exact qs3))) | (apply run_qg 4; (focus rfl); (focus exact wt); (focus rfl); (focus (first | exact qg4 | exact qs4))) | refine cod_seq ?_ | refine cod_region ?_ | refine run_nil ?_ | refine pst_then ?_ | (apply cod_cond_t; (focus rfl)) | refine cod_block ?_ | refine cod_skip ?_ | (apply run_osg 8; (focus rfl); (focus exact wt); (focus rfl); (focus (exact opr_new rfl)); (rintro _ _ ⟨b, rfl, rfl⟩)) | (apply run_ong 9; (focus rfl); (focus exact wt); (focus (exact opr_store_box_agg rfl rfl rfl (by exact pka) rfl rfl rfl (by exact spla))); (rintro _ _ ⟨rfl, rfl⟩)) | (apply run_osg 7; (focus rfl); (focus exact wt); (focus rfl); (focus (exact opr_call_ls (by rfl) (S0 ..) (by rfl) lpa)); (rintro _ _ ⟨rfl, rfl⟩)) | fail))
      (refine run_on wt (opr_store_ownm (f := fI) (q' := (cx : Int) + 1) rfl rfl rfl rfl (by exact pka) rfl (by omega) (by intro _; rfl) (by assumption) rfl rfl (by rfl)) ?_; rintro _ _ ⟨rfl, rfl⟩)
      rw [hsx]
      (repeat' (first | (apply run_qg 1; (focus rfl); (focus exact wt); (focus rfl); (focus (exact qg1))) | (apply run_qg 2; (focus rfl); (focus exact wt); (focus rfl); (focus (first | exact qg2 | exact qs2))) | (apply run_qg 3; (focus rfl); (focus exact wt); (focus rfl); (focus (first | exact qg3 | exact qs3))) | (apply run_qg 4; (focus rfl); (focus exact wt); (focus rfl); (focus (first | exact qg4 | exact qs4))) | refine cod_seq ?_ | refine cod_region ?_ | refine run_nil ?_ | refine pst_then ?_ | (apply cod_cond_t; (focus rfl)) | fail))
      (refine run_on wt (opr_store_ownm (f := fI) (q' := (cy : Int) + 1) rfl rfl rfl rfl (by exact pka) rfl (by omega) (by intro _; rfl) (by assumption) rfl rfl (by rfl)) ?_; rintro _ _ ⟨rfl, rfl⟩)
      rw [hsy]
      (repeat' (first | (apply run_qg 1; (focus rfl); (focus exact wt); (focus rfl); (focus (exact qg1))) | (apply run_qg 4; (focus rfl); (focus exact wt); (focus rfl); (focus (first | exact qg4 | exact qs4))) | refine cod_region ?_ | refine run_nil ?_ | refine pst_then ?_ | refine pst_block ?_ | fail))
      refine pst_again (k + 1) ?_ (FSub.of (by (try dsimp only); exact fsa)) (by (try dsimp only); exact hsa) ?_
      · exact hlt
      · show out.length - (k + 1) < out.length - k
        omega
  · rw [List.take_of_length_le hge]
    have hX : huff.GoodF (freqX out) := good_row (by decide) fun i => Nat.le_trans (cntX_le out i) hol
    have hY : huff.GoodF (freqY out) := good_row (by decide) fun i => Nat.le_trans (cntY_le out i) hol
    have hxl : 320 = (freqX out).length := (rowN_len _ _).symm
    have hyl : 9 = (freqY out).length := (rowN_len _ _).symm
    have BX := best_ct q3 320 (freqX out) 320 hxl.symm hX
    have BY := best_ct q4 9 (freqY out) 9 hyl.symm hY
    have eA : huff.lensL (freqX out) 15 = la out := rfl
    have eB : huff.lensL (freqY out) 15 = lb out := rfl
    have hal : 320 = (la out).length := by rw [← eA, huff.lens_len]; exact hxl
    have hbl : 9 = (lb out).length := by rw [← eB, huff.lens_len]; exact hyl
    rw [eA] at BX
    rw [eB] at BY
    have hmB : markedB s out = 2 :: put.putB s.length ++ put.putB out.length ++ runs.writeB (la out) ++ runs.writeB (lb out) ++ bits.packB (pieces (la out) (lb out) out) := rfl
    have hpo := pack_ok hCo hol
    have hpw := pieces_wf hCo
    generalize la out = A at *
    generalize lb out = B at *
    clear eA eB
    (repeat' (first | (apply run_qg 1; (focus rfl); (focus exact wt); (focus rfl); (focus (exact qg1))) | (apply run_qg 4; (focus rfl); (focus exact wt); (focus rfl); (focus (first | exact qg4 | exact qs4))) | refine cod_seq ?_ | refine cod_region ?_ | refine run_nil ?_ | refine pst_then ?_ | (apply cod_cond_f; (focus rfl)) | refine cod_exit ?_ | refine pst_block_here ?_ | refine pst_then_exit ?_ | fail))
    (refine run_os wt rfl (opr_call_l rfl (BX) rfl (by exact lpa)) ?_; rintro _ _ ⟨_, ⟨qa, ca, rfl, rfl⟩, rfl⟩; dsimp only [List.cons_append, List.nil_append])
    (repeat' (first | (apply run_qg 1; (focus rfl); (focus exact wt); (focus rfl); (focus (exact qg1))) | fail))
    (refine run_os wt rfl (opr_call_l rfl (BY) rfl (by exact lpa)) ?_; rintro _ _ ⟨_, ⟨qb, cb, rfl, rfl⟩, rfl⟩; dsimp only [List.cons_append, List.nil_append])
    (repeat' (first | (apply run_qg 1; (focus rfl); (focus exact wt); (focus rfl); (focus (exact qg1))) | (apply run_qg 6; (focus rfl); (focus exact wt); (focus rfl); (focus (first | exact qs6 | exact qg6 | exact q_max rfl rfl rfl | exact q_sliceData rfl rfl (by omega) | exact q_sliceDataN rfl rfl | exact q_unsafeStringN rfl rfl rfl | exact q_cap_slice rfl rfl))) | refine cod_seq ?_ | refine cod_region ?_ | refine run_nil ?_ | refine pst_then ?_ | refine cod_block ?_ | fail))
    refine cod_heap (heap_nil _ 77 2) ?_
    (refine cod_loop_rw (σ := Nat × Option Addr × Nat × List (Int × Int)) (fun x => x.1 ≤ out.length ∧ x.2.2.2 = pieces A B (out.take x.1)) (fun x => [(65, .int .i64 (x.1 : Int)), (13, .slice x.2.1 x.2.2.2.length x.2.2.1)]) (fun x => [own (.slice x.2.1 x.2.2.2.length x.2.2.1) 77 2 x.2.2.2.length (flat fPc x.2.2.2)]) _ (fun x => out.length - x.1) ((0, none, 0, [])) (by exact ⟨Nat.zero_le _, rfl⟩) (by exact fsa) (by (first | exact HSub.of_picks_rest (by exact pca))) (fun ⟨i, qp, cp, P⟩ ⟨hi, hP⟩ => ?_); dsimp only [List.cons_append, List.nil_append])
    dsimp only at hi hP
    have hPl : P.length ≤ 3 * i := by
      have := pieces_len A B (out.take i)
      rw [← hP, List.length_take] at this
      omega
    rcases get_or out i with ⟨m, hm, hlt⟩ | hge
    · have hmm := List.mem_of_getElem? hm
      have hmo := hok m hmm
      have S0 := sign_ct hmo
      have WX := fun q c => word_ct qa ca A hal.symm hCo.ca (hCo.hx m hmm) q c
      have hnx : pieces A B (out.take (i + 1)) = P ++ pcs A B m := by
        rw [take_next hm, pieces_app, ← hP]
        exact congrArg _ (List.append_nil _)
      by_cases h0 : m.1 = 0
      · have hsv : signV m = -1 := by unfold signV; rw [if_pos h0]
        have hpc : pcs A B m = [pieceC A (signX m)] := by unfold pcs; rw [if_pos h0]
        rw [hsv] at S0
        rw [hpc] at hnx
        generalize pieceC A (signX m) = pa at *
        (repeat' (first | (apply run_qg 1; (focus rfl); (focus exact wt); (focus rfl); (focus (exact qg1))) | (apply run_qg 2; (focus rfl); (focus exact wt); (focus rfl); (focus (first | exact qg2 | exact qs2))) | (apply run_qg 3; (focus rfl); (focus exact wt); (focus rfl); (focus (first | exact qg3 | exact qs3))) | (apply run_qg 4; (focus rfl); (focus exact wt); (focus rfl); (focus (first | exact qg4 | exact qs4))) | refine cod_seq ?_ | refine cod_region ?_ | refine run_nil ?_ | refine pst_then ?_ | (apply cod_cond_t; (focus rfl)) | refine cod_block ?_ | refine cod_skip ?_ | (apply run_osg 8; (focus rfl); (focus exact wt); (focus rfl); (focus (exact opr_new rfl)); (rintro _ _ ⟨b, rfl, rfl⟩)) | (apply run_ong 9; (focus rfl); (focus exact wt); (focus (exact opr_store_box_agg rfl rfl rfl (by exact pka) rfl rfl rfl (by exact spla))); (rintro _ _ ⟨rfl, rfl⟩)) | (apply run_osg 10; (focus rfl); (focus exact wt); (focus rfl); (focus (exact opr_buildSlice rfl rfl rfl (by exact blda) rfl rfl (by decide) rfl)); (rintro _ _ ⟨q, rfl, rfl⟩)) | (apply run_osg 7; (focus rfl); (focus exact wt); (focus rfl); (focus (exact opr_call_ls (by rfl) (S0 ..) (by rfl) lpa)); (rintro _ _ ⟨rfl, rfl⟩)) | fail))
        (refine run_os wt rfl (opr_call_l rfl (WX _ _) rfl (by exact lpa)) ?_; rintro _ _ ⟨_, ⟨q5, c5, rfl, rfl⟩, rfl⟩; dsimp only [List.cons_append, List.nil_append])
        (repeat' (first | (apply run_qg 1; (focus rfl); (focus exact wt); (focus rfl); (focus (exact qg1))) | refine cod_seq ?_ | refine cod_region ?_ | refine run_nil ?_ | refine pst_then ?_ | fail))
        refine run_heap (heap_sl (f := fPc) (ys := [pa]) pka (fun _ => rfl) rfl) ?_
        (refine run_os wt rfl (opr_append (cnt := 0) (f := fPc) (ys := [pa]) rfl rfl rfl pka pka (by intro _; rfl) one_fPc' rfl (by show (P.length + 1) * 16 ≤ _; omega) (by show P.length + 1 ≤ maxLen; unfold maxLen; omega)) ?_; rintro _ _ ⟨q6, c6, rfl, rfl⟩)
        rw [← huff.flat_two, show P.length + [pa].length = (P ++ [pa]).length from (List.length_append).symm]
        rw [← hnx]
        (repeat' (first | (apply run_qg 1; (focus rfl); (focus exact wt); (focus rfl); (focus (exact qg1))) | (apply run_qg 4; (focus rfl); (focus exact wt); (focus rfl); (focus (first | exact qg4 | exact qs4))) | refine cod_seq ?_ | refine cod_region ?_ | refine run_nil ?_ | refine pst_then ?_ | (apply cod_cond_f; (focus rfl)) | refine cod_skip ?_ | refine pst_block ?_ | fail))
        refine pst_again ((i + 1, q6, c6, pieces A B (out.take (i + 1)))) ?_ (FSub.of (by (try dsimp only); exact fsa)) (by (try dsimp only); exact hsa) ?_
        · exact ⟨hlt, rfl⟩
        · show out.length - (i + 1) < out.length - i
          omega
      · have hsv : signV m = ((logD m.2.1 : Nat) : Int) := by unfold signV; rw [if_neg h0]
        obtain ⟨hd1, hd2⟩ : 1 ≤ m.2.1 ∧ m.2.1 ≤ 511 := by
          rcases hmo with ⟨h1, _⟩ | ⟨h1, h2, h3, h4, _⟩
          · exact absurd h1 h0
          · exact ⟨h3, h4⟩
        obtain ⟨hy1, _, hy3, hy4⟩ := logD_is hd1 hd2
        have hpc : pcs A B m = [pieceC A (signX m), pieceC B (logD m.2.1), (m.2.1 - ((2 ^ logD m.2.1 : Nat) : Int), (logD m.2.1 : Int))] := by unfold pcs; rw [if_neg h0]; rfl
        have WY := fun q c => word_ct qb cb B hbl.symm hCo.cb (hCo.hy m hmm h0) q c
        have hshl : IntKind.i64.wrap (1 * 2 ^ logD m.2.1) = ((2 ^ logD m.2.1 : Nat) : Int) := by
          rw [Int.one_mul, show ((2 : Int) ^ logD m.2.1) = ((2 ^ logD m.2.1 : Nat) : Int) by simp]
          exact wr_i64 (by omega)
        rw [hsv] at S0
        rw [hpc] at hnx
        generalize pieceC A (signX m) = pa at *
        generalize pieceC B (logD m.2.1) = pb at *
        generalize logD m.2.1 = y at *
        generalize 2 ^ y = w at *
        (repeat' (first | (apply run_qg 1; (focus rfl); (focus exact wt); (focus rfl); (focus (exact qg1))) | (apply run_qg 2; (focus rfl); (focus exact wt); (focus rfl); (focus (first | exact qg2 | exact qs2))) | (apply run_qg 3; (focus rfl); (focus exact wt); (focus rfl); (focus (first | exact qg3 | exact qs3))) | (apply run_qg 4; (focus rfl); (focus exact wt); (focus rfl); (focus (first | exact qg4 | exact qs4))) | refine cod_seq ?_ | refine cod_region ?_ | refine run_nil ?_ | refine pst_then ?_ | (apply cod_cond_t; (focus rfl)) | refine cod_block ?_ | refine cod_skip ?_ | (apply run_osg 8; (focus rfl); (focus exact wt); (focus rfl); (focus (exact opr_new rfl)); (rintro _ _ ⟨b, rfl, rfl⟩)) | (apply run_ong 9; (focus rfl); (focus exact wt); (focus (exact opr_store_box_agg rfl rfl rfl (by exact pka) rfl rfl rfl (by exact spla))); (rintro _ _ ⟨rfl, rfl⟩)) | (apply run_osg 10; (focus rfl); (focus exact wt); (focus rfl); (focus (exact opr_buildSlice rfl rfl rfl (by exact blda) rfl rfl (by decide) rfl)); (rintro _ _ ⟨q, rfl, rfl⟩)) | (apply run_osg 7; (focus rfl); (focus exact wt); (focus rfl); (focus (exact opr_call_ls (by rfl) (S0 ..) (by rfl) lpa)); (rintro _ _ ⟨rfl, rfl⟩)) | fail))
        (refine run_os wt rfl (opr_call_l rfl (WX _ _) rfl (by exact lpa)) ?_; rintro _ _ ⟨_, ⟨q5, c5, rfl, rfl⟩, rfl⟩; dsimp only [List.cons_append, List.nil_append])
        (repeat' (first | (apply run_qg 1; (focus rfl); (focus exact wt); (focus rfl); (focus (exact qg1))) | refine cod_seq ?_ | refine cod_region ?_ | refine run_nil ?_ | refine pst_then ?_ | fail))
        refine run_heap (heap_sl (f := fPc) (ys := [pa]) pka (fun _ => rfl) rfl) ?_
        (refine run_os wt rfl (opr_append (cnt := 0) (f := fPc) (ys := [pa]) rfl rfl rfl pka pka (by intro _; rfl) one_fPc' rfl (by show (P.length + 1) * 16 ≤ _; omega) (by show P.length + 1 ≤ maxLen; unfold maxLen; omega)) ?_; rintro _ _ ⟨q6, c6, rfl, rfl⟩)
        rw [← huff.flat_two, show P.length + [pa].length = (P ++ [pa]).length from (List.length_append).symm]
        (repeat' (first | (apply run_qg 1; (focus rfl); (focus exact wt); (focus rfl); (focus (exact qg1))) | (apply run_qg 4; (focus rfl); (focus exact wt); (focus rfl); (focus (first | exact qg4 | exact qs4))) | refine cod_seq ?_ | refine cod_region ?_ | refine run_nil ?_ | refine pst_then ?_ | (apply cod_cond_t; (focus rfl)) | (apply run_osg 10; (focus rfl); (focus exact wt); (focus rfl); (focus (exact opr_buildSlice rfl rfl rfl (by exact blda) rfl rfl (by decide) rfl)); (rintro _ _ ⟨q, rfl, rfl⟩)) | fail))
        (refine run_os wt rfl (opr_call_l rfl (WY _ _) rfl (by exact lpa)) ?_; rintro _ _ ⟨_, ⟨q7, c7, rfl, rfl⟩, rfl⟩; dsimp only [List.cons_append, List.nil_append])
        (repeat' (first | (apply run_qg 1; (focus rfl); (focus exact wt); (focus rfl); (focus (exact qg1))) | refine run_nil ?_ | refine pst_then ?_ | fail))
        refine cod_heap (heap_sl (f := fPc) (ys := [pb]) pka (fun _ => rfl) rfl) ?_
        obtain ⟨P2, hP2⟩ : ∃ P2, P2 = P ++ [pa] ++ [pb] := ⟨_, rfl⟩
        have hP2l : P2.length = P.length + 2 := by rw [hP2, List.length_append, List.length_append]; rfl
        have hN3 : P2 ++ [(m.2.1 - (w : Int), (y : Int))] = P ++ [pa, pb, (m.2.1 - (w : Int), (y : Int))] := by rw [hP2]; simp
        have hone : ∀ y, ∀ u ∈ fPc y, u.oneCell' = true := one_fPc'
        (refine cod_drawn_ks (Hq := [_]) [5] [] rfl (by kernel_rfl) (by simp only [List.length_cons, List.length_nil, Nat.reduceAdd]; rfl) ?_)
        (repeat' (first | (apply drnK_take 1; (focus rfl); (focus rfl); (focus exact wt); (focus (decide +kernel)); (focus exact hsq); (focus rfl); (focus (exact qg1))) | (apply drnK_take 2; (focus rfl); (focus rfl); (focus exact wt); (focus (decide +kernel)); (focus exact hsq); (focus rfl); (focus (first | exact qg2 | exact qs2))) | (apply drnK_take 3; (focus rfl); (focus rfl); (focus exact wt); (focus (decide +kernel)); (focus exact hsq); (focus rfl); (focus (first | exact qg3 | exact qs3))) | (apply drnK_done; (focus (decide +kernel))) | (apply drnK_skip; (focus rfl)) | (apply drnK_wrap; (focus rfl)) | fail))
        (refine drnK_at 6 ?_; refine drnK_take _ rfl rfl wt (by decide +kernel) hsq rfl (huff.q_shl_by (m := y) rfl rfl rfl rfl (by omega) hshl) ?_)
        (repeat' (first | (apply drnK_take 4; (focus rfl); (focus rfl); (focus exact wt); (focus (decide +kernel)); (focus exact hsq); (focus rfl); (focus (first | exact qg4 | exact qs4))) | (apply drnK_take 5; (focus rfl); (focus rfl); (focus exact wt); (focus (decide +kernel)); (focus exact hsq); (focus rfl); (focus (exact qg5))) | (apply drnK_take 11; (focus rfl); (focus rfl); (focus exact wt); (focus (decide +kernel)); (focus exact hsq); (focus rfl); (focus (exact qs11))) | (apply drnK_done; (focus (decide +kernel))) | (apply drnK_skip; (focus rfl)) | fail))
        (refine drnK_at 2 ?_; refine drnK_two 11 (by kernel_rfl) ?_ ?_)
        · ((first | refine drnI_s 1 2 (by rfl) wt (by rfl) (by exact (opr_append (cnt := 0) (f := fPc) (ys := [pb]) rfl rfl rfl pka pka (by intro _; rfl) one_fPc' rfl (by show ((P ++ [pa]).length + 1) * 16 ≤ _; rw [List.length_append, List.length_singleton]; omega) (by show (P ++ [pa]).length + 1 ≤ maxLen; rw [List.length_append, List.length_singleton]; unfold maxLen; omega))) ?_ | refine drnI_n 1 2 (by rfl) wt (by exact (opr_append (cnt := 0) (f := fPc) (ys := [pb]) rfl rfl rfl pka pka (by intro _; rfl) one_fPc' rfl (by show ((P ++ [pa]).length + 1) * 16 ≤ _; rw [List.length_append, List.length_singleton]; omega) (by show (P ++ [pa]).length + 1 ≤ maxLen; rw [List.length_append, List.length_singleton]; unfold maxLen; omega))) ?_); rintro _ _ ⟨q9, c9, rfl, rfl⟩; refine ⟨(by first | exact fun h => absurd h (by decide) | exact fun _ => hsq), ?_⟩; (try dsimp only [List.cons_append, List.nil_append]))
          rw [← huff.flat_two, show (P ++ [pa]).length + [pb].length = (P ++ [pa] ++ [pb]).length from (List.length_append).symm, ← hP2]
          (refine drnK_at 11 ?_; (first | refine drnK_ones _ (by rfl) (by rfl) (by kernel_rfl) wt (by rfl) (by exact opr_buildSlice rfl rfl rfl (by exact blda) rfl rfl (by decide) rfl) ?_ | refine drnK_onen _ (by rfl) (by rfl) (by kernel_rfl) wt (by exact opr_buildSlice rfl rfl rfl (by exact blda) rfl rfl (by decide) rfl) ?_); rintro _ _ ⟨q8, rfl, rfl⟩; refine ⟨(by first | exact fun h => absurd h (by decide) | exact fun _ => hsq), ?_⟩; (try dsimp only [List.cons_append, List.nil_append]))
          (refine drnK_at 12 ?_; (first | refine drnK_ones _ (by rfl) (by rfl) (by kernel_rfl) wt (by rfl) (by exact (by first | exact opr_append_lit0 (fPc) [((m.2.1 - (w : Int), (y : Int)))] rfl rfl rfl (by exact pka) (by rfl) (by rfl) (by intro _; rfl) (by (first | exact one_fS | exact one_fI | exact one_fB | exact one_fP | exact one_fIIS | exact one_fIIIS | exact one_fII | exact one_fSI | exact one_fIIU | exact one_fY | exact one_fBl | exact one_fT | exact one_fE | assumption)) rfl (by simp only [List.length_cons, List.length_nil]; omega) (by (unfold maxLen); simp only [List.length_cons, List.length_nil]; omega) | exact opr_append_lit (fPc) [((m.2.1 - (w : Int), (y : Int)))] rfl rfl rfl (by exact pka) (by exact pka) (by rfl) (by rfl) (by first | rfl | omega) (by intro _; rfl) (by (first | exact one_fS | exact one_fI | exact one_fB | exact one_fP | exact one_fIIS | exact one_fIIIS | exact one_fII | exact one_fSI | exact one_fIIU | exact one_fY | exact one_fBl | exact one_fT | exact one_fE | assumption)) rfl (by simp only [List.length_cons, List.length_nil]; omega) (by (unfold maxLen); simp only [List.length_cons, List.length_nil]; omega))) ?_ | refine drnK_onen _ (by rfl) (by rfl) (by kernel_rfl) wt (by exact (by first | exact opr_append_lit0 (fPc) [((m.2.1 - (w : Int), (y : Int)))] rfl rfl rfl (by exact pka) (by rfl) (by rfl) (by intro _; rfl) (by (first | exact one_fS | exact one_fI | exact one_fB | exact one_fP | exact one_fIIS | exact one_fIIIS | exact one_fII | exact one_fSI | exact one_fIIU | exact one_fY | exact one_fBl | exact one_fT | exact one_fE | assumption)) rfl (by simp only [List.length_cons, List.length_nil]; omega) (by (unfold maxLen); simp only [List.length_cons, List.length_nil]; omega) | exact opr_append_lit (fPc) [((m.2.1 - (w : Int), (y : Int)))] rfl rfl rfl (by exact pka) (by exact pka) (by rfl) (by rfl) (by first | rfl | omega) (by intro _; rfl) (by (first | exact one_fS | exact one_fI | exact one_fB | exact one_fP | exact one_fIIS | exact one_fIIIS | exact one_fII | exact one_fSI | exact one_fIIU | exact one_fY | exact one_fBl | exact one_fT | exact one_fE | assumption)) rfl (by simp only [List.length_cons, List.length_nil]; omega) (by (unfold maxLen); simp only [List.length_cons, List.length_nil]; omega))) ?_); rintro _ _ ⟨q10, c10, rfl, rfl⟩; refine ⟨(by first | exact fun h => absurd h (by decide) | exact fun _ => hsq), ?_⟩; (try dsimp only [List.cons_append, List.nil_append]))
          rw [hN3, ← hnx]
          (repeat' (first | (apply run_qg 1; (focus rfl); (focus exact wt); (focus rfl); (focus (exact qg1))) | (apply run_qg 4; (focus rfl); (focus exact wt); (focus rfl); (focus (first | exact qg4 | exact qs4))) | refine cod_region ?_ | refine run_nil ?_ | refine pst_then ?_ | refine pst_block ?_ | (apply drnK_take 1; (focus rfl); (focus rfl); (focus exact wt); (focus (decide +kernel)); (focus exact hsq); (focus rfl); (focus (exact qg1))) | (apply drnK_end; (focus (decide +kernel))) | fail))
          refine pst_again ((i + 1, q10, c10, pieces A B (out.take (i + 1)))) ?_ (FSub.of (by (try dsimp only); exact fsa)) (by (try dsimp only); exact hsa) ?_
          · exact ⟨hlt, rfl⟩
          · show out.length - (i + 1) < out.length - i
            omega
        · ((first | refine drnI_s 1 11 (by rfl) wt (by rfl) (by exact opr_buildSlice rfl rfl rfl (by exact blda) rfl rfl (by decide) rfl) ?_ | refine drnI_n 1 11 (by rfl) wt (by exact opr_buildSlice rfl rfl rfl (by exact blda) rfl rfl (by decide) rfl) ?_); rintro _ _ ⟨q8, rfl, rfl⟩; refine ⟨(by first | exact fun h => absurd h (by decide) | exact fun _ => hsq), ?_⟩; (try dsimp only [List.cons_append, List.nil_append]))
          (refine drnK_at 2 ?_; (first | refine drnK_ones _ (by rfl) (by rfl) (by kernel_rfl) wt (by rfl) (by exact (opr_append (cnt := 0) (f := fPc) (ys := [pb]) rfl rfl rfl pka pka (by intro _; rfl) one_fPc' rfl (by show ((P ++ [pa]).length + 1) * 16 ≤ _; rw [List.length_append, List.length_singleton]; omega) (by show (P ++ [pa]).length + 1 ≤ maxLen; rw [List.length_append, List.length_singleton]; unfold maxLen; omega))) ?_ | refine drnK_onen _ (by rfl) (by rfl) (by kernel_rfl) wt (by exact (opr_append (cnt := 0) (f := fPc) (ys := [pb]) rfl rfl rfl pka pka (by intro _; rfl) one_fPc' rfl (by show ((P ++ [pa]).length + 1) * 16 ≤ _; rw [List.length_append, List.length_singleton]; omega) (by show (P ++ [pa]).length + 1 ≤ maxLen; rw [List.length_append, List.length_singleton]; unfold maxLen; omega))) ?_); rintro _ _ ⟨q9, c9, rfl, rfl⟩; refine ⟨(by first | exact fun h => absurd h (by decide) | exact fun _ => hsq), ?_⟩; (try dsimp only [List.cons_append, List.nil_append]))
          rw [← huff.flat_two, show (P ++ [pa]).length + [pb].length = (P ++ [pa] ++ [pb]).length from (List.length_append).symm, ← hP2]
          (refine drnK_at 12 ?_; (first | refine drnK_ones _ (by rfl) (by rfl) (by kernel_rfl) wt (by rfl) (by exact (by first | exact opr_append_lit0 (fPc) [((m.2.1 - (w : Int), (y : Int)))] rfl rfl rfl (by exact pka) (by rfl) (by rfl) (by intro _; rfl) (by (first | exact one_fS | exact one_fI | exact one_fB | exact one_fP | exact one_fIIS | exact one_fIIIS | exact one_fII | exact one_fSI | exact one_fIIU | exact one_fY | exact one_fBl | exact one_fT | exact one_fE | assumption)) rfl (by simp only [List.length_cons, List.length_nil]; omega) (by (unfold maxLen); simp only [List.length_cons, List.length_nil]; omega) | exact opr_append_lit (fPc) [((m.2.1 - (w : Int), (y : Int)))] rfl rfl rfl (by exact pka) (by exact pka) (by rfl) (by rfl) (by first | rfl | omega) (by intro _; rfl) (by (first | exact one_fS | exact one_fI | exact one_fB | exact one_fP | exact one_fIIS | exact one_fIIIS | exact one_fII | exact one_fSI | exact one_fIIU | exact one_fY | exact one_fBl | exact one_fT | exact one_fE | assumption)) rfl (by simp only [List.length_cons, List.length_nil]; omega) (by (unfold maxLen); simp only [List.length_cons, List.length_nil]; omega))) ?_ | refine drnK_onen _ (by rfl) (by rfl) (by kernel_rfl) wt (by exact (by first | exact opr_append_lit0 (fPc) [((m.2.1 - (w : Int), (y : Int)))] rfl rfl rfl (by exact pka) (by rfl) (by rfl) (by intro _; rfl) (by (first | exact one_fS | exact one_fI | exact one_fB | exact one_fP | exact one_fIIS | exact one_fIIIS | exact one_fII | exact one_fSI | exact one_fIIU | exact one_fY | exact one_fBl | exact one_fT | exact one_fE | assumption)) rfl (by simp only [List.length_cons, List.length_nil]; omega) (by (unfold maxLen); simp only [List.length_cons, List.length_nil]; omega) | exact opr_append_lit (fPc) [((m.2.1 - (w : Int), (y : Int)))] rfl rfl rfl (by exact pka) (by exact pka) (by rfl) (by rfl) (by first | rfl | omega) (by intro _; rfl) (by (first | exact one_fS | exact one_fI | exact one_fB | exact one_fP | exact one_fIIS | exact one_fIIIS | exact one_fII | exact one_fSI | exact one_fIIU | exact one_fY | exact one_fBl | exact one_fT | exact one_fE | assumption)) rfl (by simp only [List.length_cons, List.length_nil]; omega) (by (unfold maxLen); simp only [List.length_cons, List.length_nil]; omega))) ?_); rintro _ _ ⟨q10, c10, rfl, rfl⟩; refine ⟨(by first | exact fun h => absurd h (by decide) | exact fun _ => hsq), ?_⟩; (try dsimp only [List.cons_append, List.nil_append]))
          rw [hN3, ← hnx]
          (repeat' (first | (apply run_qg 1; (focus rfl); (focus exact wt); (focus rfl); (focus (exact qg1))) | (apply run_qg 4; (focus rfl); (focus exact wt); (focus rfl); (focus (first | exact qg4 | exact qs4))) | refine cod_region ?_ | refine run_nil ?_ | refine pst_then ?_ | refine pst_block ?_ | (apply drnK_take 1; (focus rfl); (focus rfl); (focus exact wt); (focus (decide +kernel)); (focus exact hsq); (focus rfl); (focus (exact qg1))) | (apply drnK_end; (focus (decide +kernel))) | fail))
          refine pst_again ((i + 1, q10, c10, pieces A B (out.take (i + 1)))) ?_ (FSub.of (by (try dsimp only); exact fsa)) (by (try dsimp only); exact hsa) ?_
          · exact ⟨hlt, rfl⟩
          · show out.length - (i + 1) < out.length - i
            omega
    · rw [List.take_of_length_le hge] at hP
      subst hP
      have RA := fun q c => rw_ct q c A hal.symm hCo.ca
      have RB := fun q c => rw_ct q c B hbl.symm hCo.cb
      have PK := fun q c => pack_ct q c (pieces A B out) hpw hpo (by omega)
      have P1 := put_ct s.length (by omega)
      have P2 := put_ct out.length (by omega)
      have l1 := put_len s.length
      have l2 := put_len out.length
      have l3 := writeB_len A
      have l4 := writeB_len B
      have l5 := packB_len hCo hol
      generalize put.putB s.length = b1 at *
      generalize put.putB out.length = b2 at *
      generalize runs.writeB A = b3 at *
      generalize runs.writeB B = b4 at *
      generalize bits.packB (pieces A B out) = b5 at *
      (repeat' (first | (apply run_qg 1; (focus rfl); (focus exact wt); (focus rfl); (focus (exact qg1))) | (apply run_qg 4; (focus rfl); (focus exact wt); (focus rfl); (focus (first | exact qg4 | exact qs4))) | (apply run_qg 6; (focus rfl); (focus exact wt); (focus rfl); (focus (first | exact qs6 | exact qg6 | exact q_max rfl rfl rfl | exact q_sliceData rfl rfl (by omega) | exact q_sliceDataN rfl rfl | exact q_unsafeStringN rfl rfl rfl | exact q_cap_slice rfl rfl))) | (apply run_qg 11; (focus rfl); (focus exact wt); (focus rfl); (focus (exact qs11))) | refine cod_seq ?_ | refine cod_region ?_ | refine run_nil ?_ | refine pst_then ?_ | (apply cod_cond_f; (focus rfl)) | refine cod_exit ?_ | refine cod_ret ?_ | refine pst_block_here ?_ | refine pst_then_exit ?_ | (apply run_osg 7; (focus rfl); (focus exact wt); (focus rfl); (focus (exact opr_call_ls (by rfl) (RA ..) (by rfl) lpa)); (rintro _ _ ⟨rfl, rfl⟩)) | (apply run_osg 7; (focus rfl); (focus exact wt); (focus rfl); (focus (exact opr_call_ls (by rfl) (RB ..) (by rfl) lpa)); (rintro _ _ ⟨rfl, rfl⟩)) | (apply run_osg 7; (focus rfl); (focus exact wt); (focus rfl); (focus (exact opr_call_ls (by rfl) (PK ..) (by rfl) lpa)); (rintro _ _ ⟨rfl, rfl⟩)) | (apply run_osg 7; (focus rfl); (focus exact wt); (focus rfl); (focus (exact opr_call_ls (by rfl) (P1 ..) (by rfl) lpa)); (rintro _ _ ⟨rfl, rfl⟩)) | (apply run_osg 7; (focus rfl); (focus exact wt); (focus rfl); (focus (exact opr_call_ls (by rfl) (P2 ..) (by rfl) lpa)); (rintro _ _ ⟨rfl, rfl⟩)) | fail))
      exact pst_fin rfl (by exact resa) _ (⟨out, hF, by rw [hmB]; rfl, rfl⟩) (by exact hsa)
end Go.Proofs.Ytppnaofebkpbkaa.press
/-
  press: the reader's marks; press.Open of what was pressed: the walks. (SAFE)
-/
namespace Go.Proofs.Ytppnaofebkpbkaa.press
open Go.RowKit kit sl Go.Proofs.Ytppnaofebkpbkaa.put Go.Proofs.Ytppnaofebkpbkaa.code Go.Proofs.Ytppnaofebkpbkaa.lens
set_option linter.unusedVariables false
theorem one_book (b : Nat) (q : Option Addr) (c : Nat) {A : List Int} (hc : canonE A = 0) (T : List UInt8) (hT : T.length ≤ 100000) (k : Nat) (hk : k ≤ 8 * T.length) {x : Int} {k2 : Nat} (h : code.one A T k = (x, k2, 0)) :
    Ct Try.prog 52 [bptr b 0, .string (str T), .int .i64 (k : Int)] [box b (bkC (.slice q (sgs A 15).length c) (fA A 16) (fR A 16) (fC A)) 98, sl 1 (.slice q (sgs A 15).length c) ((sgs A 15).map fI)]
      fun v H' => v = .tuple #[.int .i64 x, .int .i64 (k2 : Int), .int .i64 0] ∧ H' = [box b (bkC (.slice q (sgs A 15).length c) (fA A 16) (fR A 16) (fC A)) 98] := by
  have hl := (canon_good hc).1
  have O := one_any b q c (sgs A 15) (fA A 16) (fR A 16) (fC A) T k (book_A hl) (book_C hl) (book_R A) (by have h9 := sgs_len A 15; have : 15 * A.length ≤ 15 * 320 := Nat.mul_le_mul_left _ hl; omega) (by omega) hk
  unfold code.one at h
  rw [h] at O
  exact O
theorem one_fM (m : Mk) : ∀ u ∈ fIIU m, u.oneCell' = true := by simp [fIIU, Value.oneCell']
attribute [local irreducible] box own sl old bptr eptr Qt Opr Run Cod Pst Drn
attribute [local irreducible] bkC canonE sgs fA fR fC code.one pieces bitV signX logD pcs runs.writeB bits.packB bits.leN bits.total
set_option maxRecDepth 100000 in
set_option maxHeartbeats 8000000 in
theorem marks_any (b0 : Nat) (A B : List Int) (out : List Mk) (h : Codes A B out) (hA : A.length = 320) (hB : B.length = 9) (hol : out.length ≤ 512) :
    Ct Try.prog 30 [bptr b0 0, .int .i64 (out.length : Int)] [box b0 [.string (str (runs.writeB A ++ (runs.writeB B ++ bits.packB (pieces A B out)))), .bool false] 57]
      fun v H' => ∃ q c, v = .slice q out.length c ∧ H' = [own (.slice q out.length c) 70 3 out.length (flat fIIU out), box b0 [.string (str (bits.packB (pieces A B out))), .bool false] 57] := by
  have hpl := packB_len h hol
  have hw2 := writeB_len B
  have hst := stands_start (pieces_wf h)
  have L1 := lens_ct b0 A (runs.writeB B ++ bits.packB (pieces A B out)) hA h.ca (by rw [List.length_append]; omega)
  have L2 := lens_ct b0 B (bits.packB (pieces A B out)) hB h.cb (by omega)
  have hca := h.ca
  have hcb := h.cb
  have OA := fun b q c k hk x k2 h => one_book b q c hca (bits.packB (pieces A B out)) (by omega) k hk (x := x) (k2 := k2) h
  have OB := fun b q c k hk x k2 h => one_book b q c hcb (bits.packB (pieces A B out)) (by omega) k hk (x := x) (k2 := k2) h
  have FR := fun k => from_ct (bits.packB (pieces A B out)) k
  have NX := fun w k a t h1 h2 => next_ct w k a t (bits.packB (pieces A B out)) h1 h2 (by omega)
  unfold rdE fromV at FR
  unfold rdE at NX
  unfold bookC at L1 L2
  generalize bits.packB (pieces A B out) = T at *
  generalize runs.writeB A = w1 at *
  generalize runs.writeB B = w2 at *
  (refine spec_enter Try.func30 Try.ntmps30 rfl rfl fun Fr => ?_; dsimp only [List.cons_append, List.nil_append, ini, Nat.reduceAdd])
  (repeat' (first | (apply run_qg 1; (focus rfl); (focus exact wt); (focus rfl); (focus (exact qg1))) | refine cod_seq ?_ | refine cod_region ?_ | refine run_nil ?_ | refine pst_then ?_ | fail))
  (refine run_os wt rfl (opr_call_l rfl (L1) rfl (by exact lpa)) ?_; rintro _ _ ⟨_, ⟨q1, c1, rfl, rfl⟩, rfl⟩; dsimp only [List.cons_append, List.nil_append])
  refine run_heap (heap_sl (f := fI) (ys := sgs A 15) pka (fun _ => rfl) rfl) ?_
  (repeat' (first | (apply run_osg 8; (focus rfl); (focus exact wt); (focus rfl); (focus (exact opr_new rfl)); (rintro _ _ ⟨b, rfl, rfl⟩)) | fail))
  refine run_on wt (opr_store_box_agg rfl rfl rfl pka (bk_len ..) (by rw [bk_len]; rfl) ?_ (splice_all (by rw [bk_len]; rfl))) ?_
  · unfold bkC; simp [Value.oneCell']
  rintro _ _ ⟨rfl, rfl⟩
  (repeat' (first | (apply run_qg 1; (focus rfl); (focus exact wt); (focus rfl); (focus (exact qg1))) | (apply run_qg 2; (focus rfl); (focus exact wt); (focus rfl); (focus (first | exact qg2 | exact qs2))) | (apply run_qg 3; (focus rfl); (focus exact wt); (focus rfl); (focus (first | exact qg3 | exact qs3))) | refine cod_seq ?_ | refine cod_region ?_ | refine run_nil ?_ | refine pst_then ?_ | (apply cod_cond_f; (focus rfl)) | refine cod_skip ?_ | fail))
  obtain ⟨b1, hb1⟩ : ∃ x, x = b := ⟨_, rfl⟩
  subst hb1
  (refine run_os wt rfl (opr_call_l rfl (L2) rfl (by exact lpa)) ?_; rintro _ _ ⟨_, ⟨q2, c2, rfl, rfl⟩, rfl⟩; dsimp only [List.cons_append, List.nil_append])
  refine run_heap (heap_sl (f := fI) (ys := sgs B 15) pka (fun _ => rfl) rfl) ?_
  (repeat' (first | (apply run_osg 8; (focus rfl); (focus exact wt); (focus rfl); (focus (exact opr_new rfl)); (rintro _ _ ⟨b, rfl, rfl⟩)) | fail))
  refine run_on wt (opr_store_box_agg rfl rfl rfl pka (bk_len ..) (by rw [bk_len]; rfl) ?_ (splice_all (by rw [bk_len]; rfl))) ?_
  · unfold bkC; simp [Value.oneCell']
  rintro _ _ ⟨rfl, rfl⟩
  (repeat' (first | (apply run_qg 1; (focus rfl); (focus exact wt); (focus rfl); (focus (exact qg1))) | (apply run_qg 2; (focus rfl); (focus exact wt); (focus rfl); (focus (first | exact qg2 | exact qs2))) | (apply run_qg 3; (focus rfl); (focus exact wt); (focus rfl); (focus (first | exact qg3 | exact qs3))) | refine cod_seq ?_ | refine cod_region ?_ | refine run_nil ?_ | refine pst_then ?_ | (apply cod_cond_f; (focus rfl)) | refine cod_block ?_ | refine cod_skip ?_ | fail))
  obtain ⟨b2, hb2⟩ : ∃ x, x = b := ⟨_, rfl⟩
  subst hb2
  clear L1 L2
  refine cod_heap (heap_nil _ 70 3) ?_
  (refine cod_loop_rw (σ := Nat × Nat × Option Addr × Nat) (fun x => x.1 ≤ out.length ∧ Stands T x.2.1 (pieces A B (out.drop x.1))) (fun x => [(27, .int .i64 (x.1 : Int)), (7, .int .i64 (x.2.1 : Int)), (8, .slice x.2.2.1 x.1 x.2.2.2)]) (fun x => [own (.slice x.2.2.1 x.1 x.2.2.2) 70 3 x.1 (flat fIIU (out.take x.1)), box b1 (bkC (.slice q1 (sgs A 15).length c1) (fA A 16) (fR A 16) (fC A)) 98, box b2 (bkC (.slice q2 (sgs B 15).length c2) (fA B 16) (fR B 16) (fC B)) 98]) _ (fun x => out.length - x.1) ((0, 0, none, 0)) (by exact ⟨Nat.zero_le _, hst⟩) (by exact fsa) (by (first | exact HSub.of_picks_rest (by exact pca))) (fun ⟨i, k, q3, c3⟩ ⟨hi, hk⟩ => ?_); dsimp only [List.cons_append, List.nil_append])
  dsimp only at hi hk
  have hkT : k ≤ 8 * T.length := by have := hk.fits; omega
  rcases get_or out i with ⟨m, hm, hlt⟩ | hge
  · have hmm := List.mem_of_getElem? hm
    have hmo := h.ok m hmm
    have hdr : out.drop i = m :: out.drop (i + 1) := by
      rw [List.drop_eq_getElem_cons hlt, (List.getElem?_eq_some_iff.1 hm).2]
    have htl : (out.take i).length = i := by rw [List.length_take]; omega
    have htn : out.take (i + 1) = out.take i ++ [m] := by rw [List.take_add_one, hm]; rfl
    rw [hdr, pieces_cons] at hk
    have hone : ∀ y, ∀ u ∈ fIIU y, u.oneCell' = true := one_fM
    by_cases h0 : m.1 = 0
    · have hpc : pcs A B m = [pieceC A (signX m)] := by unfold pcs; rw [if_pos h0]
      rw [hpc] at hk
      obtain ⟨w, g1, g2, g3⟩ := stands_word hca (h.hx m hmm) hk
      obtain ⟨x, hx, hx255⟩ : ∃ x : Nat, m = (0, 0, (x : Int)) ∧ x ≤ 255 := by
        obtain ⟨m1, m2, m3⟩ := m
        rcases hmo with ⟨e1, e2, e3, e4⟩ | ⟨e1, _⟩
        · dsimp only at e1 e2 e3 e4
          subst e1 e2
          exact ⟨m3.toNat, by rw [Int.toNat_of_nonneg e3], by omega⟩
        · dsimp only at e1 h0
          omega
      have hsx : ((signX m : Nat) : Int) = (x : Int) := by rw [hx]; unfold signX; rw [if_pos rfl]; rfl
      rw [hsx] at g1
      have O1 := OA b1 q1 c1 k hkT _ _ g1
      clear OA OB hk hst
      (repeat' (first | (apply run_qg 1; (focus rfl); (focus exact wt); (focus rfl); (focus (exact qg1))) | (apply run_qg 2; (focus rfl); (focus exact wt); (focus rfl); (focus (first | exact qg2 | exact qs2))) | (apply run_qg 3; (focus rfl); (focus exact wt); (focus rfl); (focus (first | exact qg3 | exact qs3))) | (apply run_qg 4; (focus rfl); (focus exact wt); (focus rfl); (focus (first | exact qg4 | exact qs4))) | refine cod_seq ?_ | refine cod_region ?_ | refine run_nil ?_ | refine pst_then ?_ | (apply cod_cond_t; (focus rfl)) | refine cod_block ?_ | refine cod_skip ?_ | fail))
      (refine run_os wt rfl (opr_call_l rfl (O1) rfl (by exact lpa)) ?_; rintro _ _ ⟨_, ⟨rfl, rfl⟩, rfl⟩; dsimp only [List.cons_append, List.nil_append])
      (repeat' (first | (apply run_qg 1; (focus rfl); (focus exact wt); (focus rfl); (focus (exact qg1))) | (apply run_qg 4; (focus rfl); (focus exact wt); (focus rfl); (focus (first | exact qg4 | exact qs4))) | (apply run_qg 5; (focus rfl); (focus exact wt); (focus rfl); (focus (exact qg5))) | (apply run_qg 11; (focus rfl); (focus exact wt); (focus rfl); (focus (exact qs11))) | refine cod_seq ?_ | refine cod_region ?_ | refine run_nil ?_ | refine pst_then ?_ | (apply cod_cond_t; (focus rfl)) | (apply cod_cond_f; (focus rfl)) | refine cod_skip ?_ | (apply run_osg 10; (focus rfl); (focus exact wt); (focus rfl); (focus (exact opr_buildSlice rfl rfl rfl (by exact blda) rfl rfl (by decide) rfl)); (rintro _ _ ⟨q, rfl, rfl⟩)) | fail))
      refine run_os wt (by rfl) (by first | exact opr_append_lit0 (fIIU) [((0, 0, (x : Int)) : Mk)] rfl rfl rfl (by exact pka) (by rfl) (by rfl) (by intro _; rfl) (by (first | exact one_fS | exact one_fI | exact one_fB | exact one_fP | exact one_fIIS | exact one_fIIIS | exact one_fII | exact one_fSI | exact one_fIIU | exact one_fY | exact one_fBl | exact one_fT | exact one_fE | assumption)) rfl (by simp only [List.length_cons, List.length_nil]; omega) (by (unfold maxLen); simp only [List.length_cons, List.length_nil]; omega) | exact opr_append_lit (fIIU) [((0, 0, (x : Int)) : Mk)] rfl rfl rfl (by exact pka) (by exact pka) (by rfl) (by rfl) (by first | rfl | omega) (by intro _; rfl) (by (first | exact one_fS | exact one_fI | exact one_fB | exact one_fP | exact one_fIIS | exact one_fIIIS | exact one_fII | exact one_fSI | exact one_fIIU | exact one_fY | exact one_fBl | exact one_fT | exact one_fE | assumption)) rfl (by simp only [List.length_cons, List.length_nil]; omega) (by (unfold maxLen); simp only [List.length_cons, List.length_nil]; omega)) ?_
      rintro _ _ ⟨q6, c6, rfl, rfl⟩
      have hnl : (out.take i ++ [((0, 0, (x : Int)) : Mk)]).length = i + 1 := by rw [List.length_append, List.length_singleton, htl]
      rw [hnl, ← hx, ← htn]
      (repeat' (first | (apply run_qg 1; (focus rfl); (focus exact wt); (focus rfl); (focus (exact qg1))) | (apply run_qg 4; (focus rfl); (focus exact wt); (focus rfl); (focus (first | exact qg4 | exact qs4))) | refine cod_region ?_ | refine run_nil ?_ | refine pst_then ?_ | refine cod_exit ?_ | refine pst_block_here ?_ | refine pst_then_exit ?_ | fail))
      refine pst_again ((i + 1, k + w, q6, c6)) ?_ (FSub.of (by (try dsimp only); exact fsa)) (by (try dsimp only); exact hsa) ?_
      · exact ⟨hlt, g3⟩
      · show out.length - (i + 1) < out.length - i
        omega
    · obtain ⟨hn1, hn2, hd1, hd2, hz⟩ : 3 ≤ m.1 ∧ m.1 ≤ 66 ∧ 1 ≤ m.2.1 ∧ m.2.1 ≤ 511 ∧ m.2.2 = 0 := by
        rcases hmo with ⟨e1, _⟩ | e
        · exact absurd e1 h0
        · exact e
      have hpc : pcs A B m = [pieceC A (signX m), pieceC B (logD m.2.1), (restD m.2.1, (logD m.2.1 : Int))] := by unfold pcs; rw [if_neg h0]
      rw [hpc] at hk
      obtain ⟨w, g1, g2, g3⟩ := stands_word hca (h.hx m hmm) hk
      obtain ⟨v, f1, f2, f3⟩ := stands_word hcb (h.hy m hmm h0) g3
      obtain ⟨r, r1, r2, r3⟩ := rest_is hd1 hd2
      obtain ⟨hy9, _⟩ := logD_is hd1 hd2
      have hshl : IntKind.i64.wrap (1 * 2 ^ logD m.2.1) = ((2 ^ logD m.2.1 : Nat) : Int) := by
        have hp : 2 ^ logD m.2.1 ≤ 2 ^ 9 := Nat.pow_le_pow_right (by decide) (by omega)
        rw [Int.one_mul, show ((2 : Int) ^ logD m.2.1) = ((2 ^ logD m.2.1 : Nat) : Int) by simp]
        exact wr_i64 (by omega)
      rw [r1] at f3
      obtain ⟨j1, j2, j3⟩ := stands_next f3 r2
      have hbv : bitV T (k + w + v) (logD m.2.1) = r := by unfold bitV; exact j1
      obtain ⟨n, hn⟩ := Int.eq_ofNat_of_zero_le (by omega : 0 ≤ m.1)
      have hsx : ((signX m : Nat) : Int) = (253 : Int) + (n : Int) := by unfold signX; rw [if_neg h0, hn]; simp
      have hmm2 : m = ((n : Int), ((2 ^ logD m.2.1 : Nat) : Int) + (r : Int), 0) := by
        obtain ⟨m1, m2, m3⟩ := m
        dsimp only at hn hz r3 ⊢
        exact Prod.ext hn (Prod.ext (by dsimp only; omega) hz)
      rw [hsx] at g1
      have O1 := OA b1 q1 c1 k hkT _ _ g1
      have O2 := OB b2 q2 c2 (k + w) g2 _ _ f1
      have NX := NX (logD m.2.1) (k + w + v)
      rw [hbv] at NX
      generalize logD m.2.1 = y at *
      have hp : 2 ^ y ≤ 2 ^ 9 := Nat.pow_le_pow_right (by decide) (by omega)
      generalize hpw : 2 ^ y = pw at *
      clear OA OB hk hst g1 f1 g3 f3 j1 hbv r3 hpc
      (repeat' (first | (apply run_qg 1; (focus rfl); (focus exact wt); (focus rfl); (focus (exact qg1))) | (apply run_qg 2; (focus rfl); (focus exact wt); (focus rfl); (focus (first | exact qg2 | exact qs2))) | (apply run_qg 3; (focus rfl); (focus exact wt); (focus rfl); (focus (first | exact qg3 | exact qs3))) | (apply run_qg 4; (focus rfl); (focus exact wt); (focus rfl); (focus (first | exact qg4 | exact qs4))) | refine cod_seq ?_ | refine cod_region ?_ | refine run_nil ?_ | refine pst_then ?_ | (apply cod_cond_t; (focus rfl)) | refine cod_block ?_ | refine cod_skip ?_ | fail))
      (refine run_os wt rfl (opr_call_l rfl (O1) rfl (by exact lpa)) ?_; rintro _ _ ⟨_, ⟨rfl, rfl⟩, rfl⟩; dsimp only [List.cons_append, List.nil_append])
      (repeat' (first | (apply run_qg 1; (focus rfl); (focus exact wt); (focus rfl); (focus (exact qg1))) | (apply run_qg 2; (focus rfl); (focus exact wt); (focus rfl); (focus (first | exact qg2 | exact qs2))) | (apply run_qg 3; (focus rfl); (focus exact wt); (focus rfl); (focus (first | exact qg3 | exact qs3))) | (apply run_qg 4; (focus rfl); (focus exact wt); (focus rfl); (focus (first | exact qg4 | exact qs4))) | refine cod_seq ?_ | refine cod_region ?_ | refine run_nil ?_ | refine pst_then ?_ | (apply cod_cond_f; (focus rfl)) | refine cod_skip ?_ | fail))
      (refine run_os wt rfl (opr_call_l rfl (O2) rfl (by exact lpa)) ?_; rintro _ _ ⟨_, ⟨rfl, rfl⟩, rfl⟩; dsimp only [List.cons_append, List.nil_append])
      (repeat' (first | (apply run_qg 1; (focus rfl); (focus exact wt); (focus rfl); (focus (exact qg1))) | (apply run_qg 2; (focus rfl); (focus exact wt); (focus rfl); (focus (first | exact qg2 | exact qs2))) | (apply run_qg 3; (focus rfl); (focus exact wt); (focus rfl); (focus (first | exact qg3 | exact qs3))) | (apply run_qg 4; (focus rfl); (focus exact wt); (focus rfl); (focus (first | exact qg4 | exact qs4))) | (apply run_qg 6; (focus rfl); (focus exact wt); (focus rfl); (focus (first | exact qs6 | exact qg6 | exact q_max rfl rfl rfl | exact q_sliceData rfl rfl (by omega) | exact q_sliceDataN rfl rfl | exact q_unsafeStringN rfl rfl rfl | exact q_cap_slice rfl rfl))) | refine cod_seq ?_ | refine cod_region ?_ | refine run_nil ?_ | refine pst_then ?_ | (apply cod_cond_f; (focus rfl)) | refine cod_skip ?_ | fail))
      (refine cod_drawn_ks (Hq := [_]) [4] [] rfl (by kernel_rfl) (by simp only [List.length_cons, List.length_nil, Nat.reduceAdd]; rfl) ?_)
      (repeat' (first | (apply drnK_take 1; (focus rfl); (focus rfl); (focus exact wt); (focus (decide +kernel)); (focus exact hsq); (focus rfl); (focus (exact qg1))) | (apply drnK_take 2; (focus rfl); (focus rfl); (focus exact wt); (focus (decide +kernel)); (focus exact hsq); (focus rfl); (focus (first | exact qg2 | exact qs2))) | (apply drnK_take 3; (focus rfl); (focus rfl); (focus exact wt); (focus (decide +kernel)); (focus exact hsq); (focus rfl); (focus (first | exact qg3 | exact qs3))) | (apply drnK_take 4; (focus rfl); (focus rfl); (focus exact wt); (focus (decide +kernel)); (focus exact hsq); (focus rfl); (focus (first | exact qg4 | exact qs4))) | (apply drnK_done; (focus (decide +kernel))) | (apply drnK_skip; (focus rfl)) | (apply drnK_wrap; (focus rfl)) | fail))
      (refine drnK_at 5 ?_; refine drnK_take _ rfl rfl wt (by decide +kernel) hsq rfl (huff.q_shl_by (m := y) rfl rfl rfl rfl (by omega) hshl) ?_)
      (repeat' (first | (apply drnK_done; (focus (decide +kernel))) | (apply drnK_skip; (focus rfl)) | fail))
      (refine drnK_at 11 ?_; refine drnK_ones _ (by rfl) (by rfl) (by kernel_rfl) wt (by rfl) (opr_call_l rfl (FR _) rfl lpa) ?_; rintro _ _ ⟨_, ⟨ra, rt, rfl, rfl⟩, rfl⟩; refine ⟨(by first | exact fun h => absurd h (by decide) | exact fun _ => hsq), ?_⟩; (try dsimp only [List.cons_append, List.nil_append]))
      (repeat' (first | (apply drnK_done; (focus (decide +kernel))) | (apply drnK_skip; (focus rfl)) | fail))
      (refine drnK_at 13 ?_; refine drnK_ones _ (by rfl) (by rfl) (by kernel_rfl) wt (by rfl) (opr_callv_l rfl rfl rfl (NX ra rt (by omega) (by omega)) rfl lpa) ?_; rintro _ _ ⟨_, ⟨rfl, rfl⟩, rfl⟩; refine ⟨(by first | exact fun h => absurd h (by decide) | exact fun _ => hsq), ?_⟩; (try dsimp only [List.cons_append, List.nil_append]))
      (repeat' (first | (apply drnK_take 4; (focus rfl); (focus rfl); (focus exact wt); (focus (decide +kernel)); (focus exact hsq); (focus rfl); (focus (first | exact qg4 | exact qs4))) | (apply drnK_take 5; (focus rfl); (focus rfl); (focus exact wt); (focus (decide +kernel)); (focus exact hsq); (focus rfl); (focus (exact qg5))) | (apply drnK_take 11; (focus rfl); (focus rfl); (focus exact wt); (focus (decide +kernel)); (focus exact hsq); (focus rfl); (focus (exact qs11))) | (apply drnK_skip; (focus rfl)) | fail))
      rw [show (253 : Int) + (n : Int) - 256 + 3 = (n : Int) by omega]
      (refine drnK_at 17 ?_; (first | refine drnK_ones _ (by rfl) (by rfl) (by kernel_rfl) wt (by rfl) (by exact opr_buildSlice rfl rfl rfl (by exact blda) rfl rfl (by decide) rfl) ?_ | refine drnK_onen _ (by rfl) (by rfl) (by kernel_rfl) wt (by exact opr_buildSlice rfl rfl rfl (by exact blda) rfl rfl (by decide) rfl) ?_); rintro _ _ ⟨q8, rfl, rfl⟩; refine ⟨(by first | exact fun h => absurd h (by decide) | exact fun _ => hsq), ?_⟩; (try dsimp only [List.cons_append, List.nil_append]))
      (refine drnK_at 18 ?_; (first | refine drnK_ones _ (by rfl) (by rfl) (by kernel_rfl) wt (by rfl) (by exact (by first | exact opr_append_lit0 (fIIU) [(((n : Int), (pw : Int) + (r : Int), 0) : Mk)] rfl rfl rfl (by exact pka) (by rfl) (by rfl) (by intro _; rfl) (by (first | exact one_fS | exact one_fI | exact one_fB | exact one_fP | exact one_fIIS | exact one_fIIIS | exact one_fII | exact one_fSI | exact one_fIIU | exact one_fY | exact one_fBl | exact one_fT | exact one_fE | assumption)) rfl (by simp only [List.length_cons, List.length_nil]; omega) (by (unfold maxLen); simp only [List.length_cons, List.length_nil]; omega) | exact opr_append_lit (fIIU) [(((n : Int), (pw : Int) + (r : Int), 0) : Mk)] rfl rfl rfl (by exact pka) (by exact pka) (by rfl) (by rfl) (by first | rfl | omega) (by intro _; rfl) (by (first | exact one_fS | exact one_fI | exact one_fB | exact one_fP | exact one_fIIS | exact one_fIIIS | exact one_fII | exact one_fSI | exact one_fIIU | exact one_fY | exact one_fBl | exact one_fT | exact one_fE | assumption)) rfl (by simp only [List.length_cons, List.length_nil]; omega) (by (unfold maxLen); simp only [List.length_cons, List.length_nil]; omega))) ?_ | refine drnK_onen _ (by rfl) (by rfl) (by kernel_rfl) wt (by exact (by first | exact opr_append_lit0 (fIIU) [(((n : Int), (pw : Int) + (r : Int), 0) : Mk)] rfl rfl rfl (by exact pka) (by rfl) (by rfl) (by intro _; rfl) (by (first | exact one_fS | exact one_fI | exact one_fB | exact one_fP | exact one_fIIS | exact one_fIIIS | exact one_fII | exact one_fSI | exact one_fIIU | exact one_fY | exact one_fBl | exact one_fT | exact one_fE | assumption)) rfl (by simp only [List.length_cons, List.length_nil]; omega) (by (unfold maxLen); simp only [List.length_cons, List.length_nil]; omega) | exact opr_append_lit (fIIU) [(((n : Int), (pw : Int) + (r : Int), 0) : Mk)] rfl rfl rfl (by exact pka) (by exact pka) (by rfl) (by rfl) (by first | rfl | omega) (by intro _; rfl) (by (first | exact one_fS | exact one_fI | exact one_fB | exact one_fP | exact one_fIIS | exact one_fIIIS | exact one_fII | exact one_fSI | exact one_fIIU | exact one_fY | exact one_fBl | exact one_fT | exact one_fE | assumption)) rfl (by simp only [List.length_cons, List.length_nil]; omega) (by (unfold maxLen); simp only [List.length_cons, List.length_nil]; omega))) ?_); rintro _ _ ⟨q6, c6, rfl, rfl⟩; refine ⟨(by first | exact fun h => absurd h (by decide) | exact fun _ => hsq), ?_⟩; (try dsimp only [List.cons_append, List.nil_append]))
      have hnl : (out.take i ++ [(((n : Int), (pw : Int) + (r : Int), 0) : Mk)]).length = i + 1 := by rw [List.length_append, List.length_singleton, htl]
      rw [hnl, ← hmm2, ← htn]
      (repeat' (first | (apply run_qg 1; (focus rfl); (focus exact wt); (focus rfl); (focus (exact qg1))) | (apply run_qg 4; (focus rfl); (focus exact wt); (focus rfl); (focus (first | exact qg4 | exact qs4))) | refine cod_region ?_ | refine run_nil ?_ | refine pst_then ?_ | refine pst_block ?_ | (apply drnK_take 1; (focus rfl); (focus rfl); (focus exact wt); (focus (decide +kernel)); (focus exact hsq); (focus rfl); (focus (exact qg1))) | (apply drnK_end; (focus (decide +kernel))) | fail))
      refine pst_again ((i + 1, k + w + v + y, q6, c6)) ?_ (FSub.of (by (try dsimp only); exact fsa)) (by (try dsimp only); exact hsa) ?_
      · exact ⟨hlt, j3⟩
      · show out.length - (i + 1) < out.length - i
        omega
  · have hil : i = out.length := by omega
    subst hil
    rw [List.drop_length, show pieces A B [] = [] from by unfold pieces; rfl] at hk
    obtain ⟨e1, e2, e3⟩ := stands_end hk
    have htl : out.take out.length = out := List.take_length
    rw [htl]
    obtain ⟨lf, hlf⟩ : ∃ lf : Nat, 8 * T.length = k + lf := ⟨8 * T.length - k, by omega⟩
    have hlI : (8 : Int) * (T.length : Int) - (k : Int) = (lf : Int) := by omega
    have hbv : bitV T k lf = 0 := by unfold bitV; rw [e1, Nat.zero_mod]
    have NX := NX lf k
    rw [hbv] at NX
    clear OA OB hk hst e1 hbv
    rcases Nat.eq_zero_or_pos lf with hz | hz
    · (repeat' (first | (apply run_qg 1; (focus rfl); (focus exact wt); (focus rfl); (focus (exact qg1))) | (apply run_qg 2; (focus rfl); (focus exact wt); (focus rfl); (focus (first | exact qg2 | exact qs2))) | (apply run_qg 3; (focus rfl); (focus exact wt); (focus rfl); (focus (first | exact qg3 | exact qs3))) | (apply run_qg 4; (focus rfl); (focus exact wt); (focus rfl); (focus (first | exact qg4 | exact qs4))) | (apply run_qg 6; (focus rfl); (focus exact wt); (focus rfl); (focus (first | exact qs6 | exact qg6 | exact q_max rfl rfl rfl | exact q_sliceData rfl rfl (by omega) | exact q_sliceDataN rfl rfl | exact q_unsafeStringN rfl rfl rfl | exact q_cap_slice rfl rfl))) | refine cod_seq ?_ | refine cod_region ?_ | refine run_nil ?_ | refine pst_then ?_ | (apply cod_cond_f; (focus rfl)) | refine cod_exit ?_ | refine cod_ret ?_ | refine cod_skip ?_ | refine pst_block_here ?_ | refine pst_then_exit ?_ | (apply run_offs; (focus rfl); (focus rfl); (focus rfl)) | fail))
      exact pst_fin rfl (by exact resa) _ (⟨q3, c3, rfl, rfl⟩) (by exact hsa)
    · (repeat' (first | (apply run_qg 1; (focus rfl); (focus exact wt); (focus rfl); (focus (exact qg1))) | (apply run_qg 2; (focus rfl); (focus exact wt); (focus rfl); (focus (first | exact qg2 | exact qs2))) | (apply run_qg 3; (focus rfl); (focus exact wt); (focus rfl); (focus (first | exact qg3 | exact qs3))) | (apply run_qg 4; (focus rfl); (focus exact wt); (focus rfl); (focus (first | exact qg4 | exact qs4))) | (apply run_qg 6; (focus rfl); (focus exact wt); (focus rfl); (focus (first | exact qs6 | exact qg6 | exact q_max rfl rfl rfl | exact q_sliceData rfl rfl (by omega) | exact q_sliceDataN rfl rfl | exact q_unsafeStringN rfl rfl rfl | exact q_cap_slice rfl rfl))) | refine cod_seq ?_ | refine cod_region ?_ | refine run_nil ?_ | refine pst_then ?_ | (apply cod_cond_f; (focus rfl)) | refine cod_exit ?_ | refine pst_block_here ?_ | refine pst_then_exit ?_ | fail))
      (refine run_os wt rfl (opr_call_l rfl (FR _) rfl (by exact lpa)) ?_; rintro _ _ ⟨_, ⟨ra, rt, rfl, rfl⟩, rfl⟩; dsimp only [List.cons_append, List.nil_append])
      (repeat' (first | (apply run_qg 1; (focus rfl); (focus exact wt); (focus rfl); (focus (exact qg1))) | fail))
      rw [hlI]
      refine run_os wt rfl (opr_callv_l rfl rfl rfl (NX ra rt (by omega) (by omega)) rfl lpa) ?_
      rintro _ _ ⟨_, ⟨rfl, rfl⟩, rfl⟩
      dsimp only [List.cons_append, List.nil_append]
      (repeat' (first | (apply run_qg 1; (focus rfl); (focus exact wt); (focus rfl); (focus (exact qg1))) | (apply run_qg 4; (focus rfl); (focus exact wt); (focus rfl); (focus (first | exact qg4 | exact qs4))) | refine cod_seq ?_ | refine cod_region ?_ | refine run_nil ?_ | refine pst_then ?_ | (apply cod_cond_f; (focus rfl)) | refine cod_ret ?_ | refine cod_skip ?_ | fail))
      exact pst_fin rfl (by exact resa) _ (⟨q3, c3, rfl, rfl⟩) (by exact hsa)
theorem repeat_ct (c : Nat) (hc : c ≤ 1000000) : Ct Try.prog 29 [.string (str [0]), .int .i64 (c : Int)] [] fun v H' => v = .string (str (List.replicate c 0)) ∧ H' = [] :=
  ct_of_calls fun w _ => by
    have h := Try.strings_Repeat (str [0]) c w (by omega) (by show 1 * c ≤ _; omega)
    have e : Lib.repeatL (str [0]).data.toList c = List.replicate c 0 := by
      show Lib.repeatL [0] c = _
      clear h
      induction c with
      | zero => rfl
      | succ c ih => show 0 :: Lib.repeatL [0] c = _; rw [ih (by omega)]; rfl
    rw [e] at h
    exact h
end Go.Proofs.Ytppnaofebkpbkaa.press
/-
  press.Press: the walk; what it answers. (SAFE)
-/
namespace Go.Proofs.Ytppnaofebkpbkaa.press
open Go.RowKit kit sl Go.Proofs.Ytppnaofebkpbkaa.put
set_option linter.unusedVariables false
def rawB (s : List UInt8) : List UInt8 := 1 :: put.putB s.length ++ s
def allZ (s : List UInt8) : Prop := ∀ b ∈ s, b = 0
/-- what a text may be pressed to -/
def PressR (s t : List UInt8) : Prop := (allZ s ∧ t = 0 :: put.putB s.length) ∨
  (¬ allZ s ∧ ∃ out, lz.Found s out ∧ ((markedB s out).length < (rawB s).length ∧ t = markedB s out ∨ ¬ (markedB s out).length < (rawB s).length ∧ t = rawB s))
theorem allZ_count {s : List UInt8} : allZ s ↔ s.count 0 = s.length := by
  rw [List.count_eq_length]
  exact ⟨fun h b hb => (h b hb).symm, fun h b hb => (h b hb).symm⟩
theorem count_ct (s : List UInt8) : Ct Try.prog 26 [.string (str s), .string (str [0])] [] fun v H' => v = .int .i64 ((s.count 0 : Nat) : Int) ∧ H' = [] :=
  ct_of_calls fun W _ => (Try.strings_Count_one (str s) 0 W).mono fun e' w' ⟨h1, h2⟩ => ⟨h1, by rw [h2]; exact Below.refl _ _⟩
theorem press_len {s t : List UInt8} (h : PressR s t) : t ≠ [] ∧ t.length ≤ s.length + 1 + (put.putB s.length).length := by
  have e : (rawB s).length = s.length + 1 + (put.putB s.length).length := by
    unfold rawB
    rw [List.length_append, List.length_cons]
    omega
  rcases h with ⟨_, rfl⟩ | ⟨_, out, _, ⟨h1, rfl⟩ | ⟨_, rfl⟩⟩
  · exact ⟨by simp, by rw [List.length_cons]; omega⟩
  · exact ⟨by unfold markedB; simp, by omega⟩
  · exact ⟨by unfold rawB; simp, by omega⟩
attribute [local irreducible] box own sl old bptr eptr Qt Opr Run Cod Pst Drn
set_option maxRecDepth 100000 in
set_option maxHeartbeats 8000000 in
theorem press_far (s : List UInt8) (hs : 512 < s.length) (hm : s.length ≤ maxLen) : Ct Try.prog 15 [.string (str s)] [] fun v H' => v = .tuple #[.string (str []), .int .i64 2] ∧ H' = [] := by
  (refine spec_enter Try.func15 Try.ntmps15 rfl rfl fun Fr => ?_; dsimp only [List.cons_append, List.nil_append, ini, Nat.reduceAdd])
  (repeat' (first | (apply run_qg 1; (focus rfl); (focus exact wt); (focus rfl); (focus (exact qg1))) | (apply run_qg 4; (focus rfl); (focus exact wt); (focus rfl); (focus (first | exact qg4 | exact qs4))) | (apply run_qg 6; (focus rfl); (focus exact wt); (focus rfl); (focus (first | exact qs6 | exact qg6 | exact q_max rfl rfl rfl | exact q_sliceData rfl rfl (by omega) | exact q_sliceDataN rfl rfl | exact q_unsafeStringN rfl rfl rfl | exact q_cap_slice rfl rfl))) | refine cod_seq ?_ | refine cod_region ?_ | refine run_nil ?_ | refine pst_then ?_ | (apply cod_cond_t; (focus rfl)) | refine cod_ret ?_ | refine pst_then_ret ?_ | fail))
  exact pst_fin rfl (by exact resa) _ (⟨rfl, rfl⟩) (by exact hsa)
set_option maxRecDepth 100000 in
set_option maxHeartbeats 8000000 in
theorem press_any (s : List UInt8) (hs : s.length ≤ 512) : Ct Try.prog 15 [.string (str s)] [] fun v H' => ∃ t, PressR s t ∧ v = .tuple #[.string (str t), .int .i64 0] ∧ H' = [] := by
  have P0 := put_ct s.length (by omega)
  have l1 := put_len s.length
  have C0 := count_ct s
  have MA := marked_any s hs
  have hcl : s.count 0 ≤ s.length := List.count_le_length
  have hraw : rawB s = 1 :: put.putB s.length ++ s := rfl
  by_cases hz : s.count 0 = s.length
  · have R0 : PressR s (0 :: put.putB s.length) := .inl ⟨allZ_count.2 hz, rfl⟩
    generalize put.putB s.length = b1 at *
    generalize s.count 0 = ct at *
    (refine spec_enter Try.func15 Try.ntmps15 rfl rfl fun Fr => ?_; dsimp only [List.cons_append, List.nil_append, ini, Nat.reduceAdd])
    (repeat' (first | (apply run_qg 1; (focus rfl); (focus exact wt); (focus rfl); (focus (exact qg1))) | (apply run_qg 4; (focus rfl); (focus exact wt); (focus rfl); (focus (first | exact qg4 | exact qs4))) | (apply run_qg 6; (focus rfl); (focus exact wt); (focus rfl); (focus (first | exact qs6 | exact qg6 | exact q_max rfl rfl rfl | exact q_sliceData rfl rfl (by omega) | exact q_sliceDataN rfl rfl | exact q_unsafeStringN rfl rfl rfl | exact q_cap_slice rfl rfl))) | (apply run_qg 11; (focus rfl); (focus exact wt); (focus rfl); (focus (exact qs11))) | refine cod_seq ?_ | refine cod_region ?_ | refine run_nil ?_ | refine pst_then ?_ | (apply cod_cond_t; (focus rfl)) | (apply cod_cond_f; (focus rfl)) | refine cod_ret ?_ | refine cod_skip ?_ | refine pst_then_ret ?_ | (apply run_osg 7; (focus rfl); (focus exact wt); (focus rfl); (focus (exact opr_call_ls (by rfl) (P0 ..) (by rfl) lpa)); (rintro _ _ ⟨rfl, rfl⟩)) | (apply run_osg 7; (focus rfl); (focus exact wt); (focus rfl); (focus (exact opr_call_ls (by rfl) (C0 ..) (by rfl) lpa)); (rintro _ _ ⟨rfl, rfl⟩)) | fail))
    exact pst_fin rfl (by exact resa) _ (⟨_, R0, rfl, rfl⟩) (by exact hsa)
  · have hz' : ¬ allZ s := fun h => hz (allZ_count.1 h)
    have R1 : ∀ out, lz.Found s out → (markedB s out).length < (rawB s).length → PressR s (markedB s out) := fun out h1 h2 => .inr ⟨hz', out, h1, .inl ⟨h2, rfl⟩⟩
    have R2 : ∀ out, lz.Found s out → ¬ (markedB s out).length < (rawB s).length → PressR s (rawB s) := fun out h1 h2 => .inr ⟨hz', out, h1, .inr ⟨h2, rfl⟩⟩
    rw [hraw] at R1 R2
    generalize put.putB s.length = b1 at *
    generalize s.count 0 = ct at *
    (refine spec_enter Try.func15 Try.ntmps15 rfl rfl fun Fr => ?_; dsimp only [List.cons_append, List.nil_append, ini, Nat.reduceAdd])
    (repeat' (first | (apply run_qg 1; (focus rfl); (focus exact wt); (focus rfl); (focus (exact qg1))) | (apply run_qg 4; (focus rfl); (focus exact wt); (focus rfl); (focus (first | exact qg4 | exact qs4))) | (apply run_qg 6; (focus rfl); (focus exact wt); (focus rfl); (focus (first | exact qs6 | exact qg6 | exact q_max rfl rfl rfl | exact q_sliceData rfl rfl (by omega) | exact q_sliceDataN rfl rfl | exact q_unsafeStringN rfl rfl rfl | exact q_cap_slice rfl rfl))) | (apply run_qg 11; (focus rfl); (focus exact wt); (focus rfl); (focus (exact qs11))) | refine cod_seq ?_ | refine cod_region ?_ | refine run_nil ?_ | refine pst_then ?_ | (apply cod_cond_f; (focus rfl)) | refine cod_skip ?_ | (apply run_osg 7; (focus rfl); (focus exact wt); (focus rfl); (focus (exact opr_call_ls (by rfl) (P0 ..) (by rfl) lpa)); (rintro _ _ ⟨rfl, rfl⟩)) | (apply run_osg 7; (focus rfl); (focus exact wt); (focus rfl); (focus (exact opr_call_ls (by rfl) (C0 ..) (by rfl) lpa)); (rintro _ _ ⟨rfl, rfl⟩)) | fail))
    (refine run_os wt rfl (opr_call_l rfl (MA) rfl (by exact lpa)) ?_; rintro _ _ ⟨_, ⟨out, hF, rfl, rfl⟩, rfl⟩; dsimp only [List.cons_append, List.nil_append])
    have R1 := R1 out hF
    have R2 := R2 out hF
    have hbl : (1 :: b1 ++ s).length = 1 + b1.length + s.length := by simp; omega
    generalize markedB s out = mb at *
    have hbl2 : (1 :: (b1 ++ s)).length = 1 + b1.length + s.length := hbl
    by_cases hlt : mb.length < 1 + b1.length + s.length
    · have R1 := R1 (by rw [hbl]; exact hlt)
      (repeat' (first | (apply run_qg 1; (focus rfl); (focus exact wt); (focus rfl); (focus (exact qg1))) | (apply run_qg 4; (focus rfl); (focus exact wt); (focus rfl); (focus (first | exact qg4 | exact qs4))) | (apply run_qg 6; (focus rfl); (focus exact wt); (focus rfl); (focus (first | exact qs6 | exact qg6 | exact q_max rfl rfl rfl | exact q_sliceData rfl rfl (by omega) | exact q_sliceDataN rfl rfl | exact q_unsafeStringN rfl rfl rfl | exact q_cap_slice rfl rfl))) | refine cod_seq ?_ | refine cod_region ?_ | refine run_nil ?_ | refine pst_then ?_ | (apply cod_cond_t; (focus rfl)) | refine cod_ret ?_ | refine pst_then_ret ?_ | fail))
      exact pst_fin rfl (by exact resa) _ (⟨mb, R1, rfl, rfl⟩) (by exact hsa)
    · have R2 := R2 (by rw [hbl]; exact hlt)
      (repeat' (first | (apply run_qg 1; (focus rfl); (focus exact wt); (focus rfl); (focus (exact qg1))) | (apply run_qg 4; (focus rfl); (focus exact wt); (focus rfl); (focus (first | exact qg4 | exact qs4))) | (apply run_qg 6; (focus rfl); (focus exact wt); (focus rfl); (focus (first | exact qs6 | exact qg6 | exact q_max rfl rfl rfl | exact q_sliceData rfl rfl (by omega) | exact q_sliceDataN rfl rfl | exact q_unsafeStringN rfl rfl rfl | exact q_cap_slice rfl rfl))) | refine cod_seq ?_ | refine cod_region ?_ | refine run_nil ?_ | refine pst_then ?_ | (apply cod_cond_f; (focus rfl)) | refine cod_ret ?_ | refine cod_skip ?_ | fail))
      exact pst_fin rfl (by exact resa) _ (⟨_, R2, rfl, rfl⟩) (by exact hsa)
theorem press_zero (k : Nat) (h : k ≤ 512) : Ct Try.prog 15 [.string (str (List.replicate k 0))] [] fun v H' => v = .tuple #[.string (str (0 :: put.putB k)), .int .i64 0] ∧ H' = [] := by
  refine ct_imp (press_any (List.replicate k 0) (by rw [List.length_replicate]; exact h)) fun v H' h => ?_
  obtain ⟨t, hR, h1, h2⟩ := h
  have hz : allZ (List.replicate k (0 : UInt8)) := fun b hb => List.eq_of_mem_replicate hb
  rcases hR with ⟨_, e⟩ | ⟨h3, _⟩
  · rw [List.length_replicate] at e
    rw [e] at h1
    exact ⟨h1, h2⟩
  · exact absurd hz h3
end Go.Proofs.Ytppnaofebkpbkaa.press
/-
  press.Open of what press.Press made: the walk. (SAFE)
-/
namespace Go.Proofs.Ytppnaofebkpbkaa.press
open Go.RowKit kit sl Go.Proofs.Ytppnaofebkpbkaa.put Go.Proofs.Ytppnaofebkpbkaa.get
set_option linter.unusedVariables false
theorem get_putL (n : Nat) (r : List UInt8) (h : n ≤ 512) : getB (put.putB n ++ r) = (n, (put.putB n).length, 0) ∧ (put.putB n).length ≤ (put.putB n ++ r).length ∧ (put.putB n ++ r).drop (put.putB n).length = r :=
  ⟨getB_put n r (by omega), by rw [List.length_append]; omega, List.drop_left⟩
theorem markedB_is (s : List UInt8) (out : List Mk) : markedB s out = 2 :: (put.putB s.length ++ (put.putB out.length ++ (runs.writeB (la out) ++ (runs.writeB (lb out) ++ bits.packB (pieces (la out) (lb out) out))))) := by
  unfold markedB
  simp only [List.cons_append, List.append_assoc]
attribute [local irreducible] box own sl old bptr eptr Qt Opr Run Cod Pst Drn
attribute [local irreducible] lens.canonE pieces logD signX pcs runs.writeB bits.packB bits.leN bits.total getB put.putB la lb huff.lensL
set_option maxRecDepth 100000 in
set_option maxHeartbeats 8000000 in
theorem open_zero (n : Nat) (hn : n ≤ 512) : Ct Try.prog 18 [.string (str (0 :: put.putB n))] [] fun v H' => v = .tuple #[.string (str (List.replicate n 0)), .int .i64 0] ∧ H' = [] := by
  obtain ⟨g1, g2, g3⟩ := get_putL n [] hn
  rw [List.append_nil] at g1 g2 g3
  have l1 := put_len n
  have N0 := fun b => num_ok b (by omega) g1 g2 hn
  rw [g3] at N0
  have R0 := repeat_ct n (by omega)
  have hl : (0 :: put.putB n).length = (put.putB n).length + 1 := rfl
  have e0 : ((0 :: put.putB n) == []) = false := rfl
  have e1 : List.drop 1 (0 :: put.putB n) = put.putB n := rfl
  have e2 : (0 :: put.putB n)[0]? = some 0 := rfl
  have hu : UInt8.toNat 0 = 0 := rfl
  have hrl : (List.replicate n (0 : UInt8)).length = n := List.length_replicate
  clear g1 g2 g3
  generalize put.putB n = b1 at *
  generalize List.replicate n (0 : UInt8) = z at *
  (refine spec_enter Try.func18 Try.ntmps18 rfl rfl fun Fr => ?_; dsimp only [List.cons_append, List.nil_append, ini, Nat.reduceAdd])
  (repeat' (first | (apply run_qg 1; (focus rfl); (focus exact wt); (focus rfl); (focus (exact qg1))) | (apply run_qg 4; (focus rfl); (focus exact wt); (focus rfl); (focus (first | exact qg4 | exact qs4))) | (apply run_qg 5; (focus rfl); (focus exact wt); (focus rfl); (focus (exact qg5))) | (apply run_qg 12; (focus rfl); (focus exact wt); (focus rfl); (focus (first | exact qs12 | exact q_cutp rfl rfl rfl rfl (by omega) (by omega) | exact q_slice_cap rfl rfl rfl rfl (by omega)))) | refine cod_seq ?_ | refine cod_region ?_ | refine run_nil ?_ | refine pst_then ?_ | (apply cod_cond_f; (focus rfl)) | refine cod_skip ?_ | (apply run_osg 8; (focus rfl); (focus exact wt); (focus rfl); (focus (exact opr_new rfl)); (rintro _ _ ⟨b, rfl, rfl⟩)) | (apply run_ong 9; (focus rfl); (focus exact wt); (focus (exact opr_store_box_agg rfl rfl rfl (by exact pka) rfl rfl rfl (by exact spla))); (rintro _ _ ⟨rfl, rfl⟩)) | fail))
  (refine run_os wt rfl (opr_call_l rfl (N0 _) rfl (by exact lpa)) ?_; rintro _ _ ⟨_, ⟨rfl, rfl⟩, rfl⟩; dsimp only [List.cons_append, List.nil_append])
  (repeat' (first | (apply run_qg 1; (focus rfl); (focus exact wt); (focus rfl); (focus (exact qg1))) | (apply run_qg 2; (focus rfl); (focus exact wt); (focus rfl); (focus (first | exact qg2 | exact qs2))) | (apply run_qg 3; (focus rfl); (focus exact wt); (focus rfl); (focus (first | exact qg3 | exact qs3))) | (apply run_qg 4; (focus rfl); (focus exact wt); (focus rfl); (focus (first | exact qg4 | exact qs4))) | (apply run_qg 6; (focus rfl); (focus exact wt); (focus rfl); (focus (first | exact qs6 | exact qg6 | exact q_max rfl rfl rfl | exact q_sliceData rfl rfl (by omega) | exact q_sliceDataN rfl rfl | exact q_unsafeStringN rfl rfl rfl | exact q_cap_slice rfl rfl))) | refine cod_seq ?_ | refine cod_region ?_ | refine run_nil ?_ | refine pst_then ?_ | (apply cod_cond_t; (focus rfl)) | (apply cod_cond_f; (focus rfl)) | refine cod_block ?_ | refine cod_ret ?_ | refine cod_skip ?_ | refine pst_block ?_ | (apply run_ong 9; (focus rfl); (focus exact wt); (focus (exact opr_store_box_one rfl rfl rfl rfl (by exact pka) rfl (by exact seta))); (rintro _ _ ⟨rfl, rfl⟩)) | (apply run_osg 7; (focus rfl); (focus exact wt); (focus rfl); (focus (exact opr_call_ls (by rfl) (R0 ..) (by rfl) lpa)); (rintro _ _ ⟨rfl, rfl⟩)) | fail))
  exact pst_fin rfl (by exact resa) _ (⟨rfl, rfl⟩) (by exact hsa)
set_option maxRecDepth 100000 in
set_option maxHeartbeats 8000000 in
theorem open_marked (s : List UInt8) (hs : s.length ≤ 512) (out : List Mk) (hF : lz.Found s out) : Ct Try.prog 18 [.string (str (markedB s out))] [] fun v H' => v = .tuple #[.string (str s), .int .i64 0] ∧ H' = [] := by
  have hok := marks_ok out [] s hF.2.1 hF.1
  have hol := hF.2.2.1
  have hCo := codes_of hok hol
  have hA : (la out).length = 320 := by unfold la; rw [huff.lens_len]; exact rowN_len _ _
  have hB : (lb out).length = 9 := by unfold lb; rw [huff.lens_len]; exact rowN_len _ _
  have MK := fun b => marks_any b (la out) (lb out) out hCo hA hB hol
  have X1 := fun q c => lz.expand_ct q c out hF.2.1 (by omega) hF.1
  have hpl := packB_len hCo hol
  have hw1 := writeB_len (la out)
  have hw2 := writeB_len (lb out)
  have l1 := put_len s.length
  have l2 := put_len out.length
  rw [markedB_is]
  generalize bits.packB (pieces (la out) (lb out) out) = T at *
  generalize runs.writeB (lb out) = w2 at *
  generalize runs.writeB (la out) = w1 at *
  have hr1 : (w1 ++ (w2 ++ T)).length ≤ 10000 := by simp only [List.length_append]; omega
  generalize w1 ++ (w2 ++ T) = r1 at *
  obtain ⟨k1, k2, k3⟩ := get_putL out.length r1 hol
  have hr2 : (put.putB out.length ++ r1).length ≤ 10100 := by simp only [List.length_append]; omega
  generalize hR2 : put.putB out.length ++ r1 = r2 at *
  obtain ⟨g1, g2, g3⟩ := get_putL s.length r2 hs
  have hr3 : (put.putB s.length ++ r2).length ≤ 10200 := by simp only [List.length_append]; omega
  generalize hR3 : put.putB s.length ++ r2 = r3 at *
  have N0 := fun b => num_ok b (by omega) g1 g2 hs
  have N1 := fun b => num_ok b (by omega) k1 k2 hol
  rw [g3] at N0
  rw [k3] at N1
  have hl : (2 :: r3).length = r3.length + 1 := rfl
  have e0 : ((2 :: r3) == []) = false := rfl
  have e1 : List.drop 1 (2 :: r3) = r3 := rfl
  have e2 : (2 :: r3)[0]? = some 2 := rfl
  have hu : UInt8.toNat 2 = 2 := rfl
  clear g1 g2 g3 k1 k2 k3 hF hok hCo hA hB hR2 hR3 l1 l2 hw1 hw2
  (refine spec_enter Try.func18 Try.ntmps18 rfl rfl fun Fr => ?_; dsimp only [List.cons_append, List.nil_append, ini, Nat.reduceAdd])
  (repeat' (first | (apply run_qg 1; (focus rfl); (focus exact wt); (focus rfl); (focus (exact qg1))) | (apply run_qg 4; (focus rfl); (focus exact wt); (focus rfl); (focus (first | exact qg4 | exact qs4))) | (apply run_qg 5; (focus rfl); (focus exact wt); (focus rfl); (focus (exact qg5))) | (apply run_qg 12; (focus rfl); (focus exact wt); (focus rfl); (focus (first | exact qs12 | exact q_cutp rfl rfl rfl rfl (by omega) (by omega) | exact q_slice_cap rfl rfl rfl rfl (by omega)))) | refine cod_seq ?_ | refine cod_region ?_ | refine run_nil ?_ | refine pst_then ?_ | (apply cod_cond_f; (focus rfl)) | refine cod_skip ?_ | (apply run_osg 8; (focus rfl); (focus exact wt); (focus rfl); (focus (exact opr_new rfl)); (rintro _ _ ⟨b, rfl, rfl⟩)) | (apply run_ong 9; (focus rfl); (focus exact wt); (focus (exact opr_store_box_agg rfl rfl rfl (by exact pka) rfl rfl rfl (by exact spla))); (rintro _ _ ⟨rfl, rfl⟩)) | fail))
  (refine run_os wt rfl (opr_call_l rfl (N0 _) rfl (by exact lpa)) ?_; rintro _ _ ⟨_, ⟨rfl, rfl⟩, rfl⟩; dsimp only [List.cons_append, List.nil_append])
  (repeat' (first | (apply run_qg 1; (focus rfl); (focus exact wt); (focus rfl); (focus (exact qg1))) | (apply run_qg 2; (focus rfl); (focus exact wt); (focus rfl); (focus (first | exact qg2 | exact qs2))) | (apply run_qg 3; (focus rfl); (focus exact wt); (focus rfl); (focus (first | exact qg3 | exact qs3))) | (apply run_qg 4; (focus rfl); (focus exact wt); (focus rfl); (focus (first | exact qg4 | exact qs4))) | refine cod_seq ?_ | refine cod_region ?_ | refine run_nil ?_ | refine pst_then ?_ | (apply cod_cond_t; (focus rfl)) | (apply cod_cond_f; (focus rfl)) | refine cod_block ?_ | fail))
  (refine run_os wt rfl (opr_call_l rfl (N1 _) rfl (by exact lpa)) ?_; rintro _ _ ⟨_, ⟨rfl, rfl⟩, rfl⟩; dsimp only [List.cons_append, List.nil_append])
  (repeat' (first | (apply run_qg 1; (focus rfl); (focus exact wt); (focus rfl); (focus (exact qg1))) | (apply run_qg 2; (focus rfl); (focus exact wt); (focus rfl); (focus (first | exact qg2 | exact qs2))) | (apply run_qg 3; (focus rfl); (focus exact wt); (focus rfl); (focus (first | exact qg3 | exact qs3))) | refine cod_seq ?_ | refine cod_region ?_ | refine run_nil ?_ | refine pst_then ?_ | (apply cod_cond_f; (focus rfl)) | refine cod_skip ?_ | fail))
  (refine run_os wt rfl (opr_call_l rfl (MK _) rfl (by exact lpa)) ?_; rintro _ _ ⟨_, ⟨q1, c1, rfl, rfl⟩, rfl⟩; dsimp only [List.cons_append, List.nil_append])
  (repeat' (first | (apply run_qg 1; (focus rfl); (focus exact wt); (focus rfl); (focus (exact qg1))) | (apply run_qg 2; (focus rfl); (focus exact wt); (focus rfl); (focus (first | exact qg2 | exact qs2))) | (apply run_qg 3; (focus rfl); (focus exact wt); (focus rfl); (focus (first | exact qg3 | exact qs3))) | (apply run_qg 4; (focus rfl); (focus exact wt); (focus rfl); (focus (first | exact qg4 | exact qs4))) | (apply run_qg 6; (focus rfl); (focus exact wt); (focus rfl); (focus (first | exact qs6 | exact qg6 | exact q_max rfl rfl rfl | exact q_sliceData rfl rfl (by omega) | exact q_sliceDataN rfl rfl | exact q_unsafeStringN rfl rfl rfl | exact q_cap_slice rfl rfl))) | refine cod_seq ?_ | refine cod_region ?_ | refine run_nil ?_ | refine pst_then ?_ | (apply cod_cond_t; (focus rfl)) | (apply cod_cond_f; (focus rfl)) | refine cod_ret ?_ | refine cod_skip ?_ | refine pst_block ?_ | (apply run_osg 7; (focus rfl); (focus exact wt); (focus rfl); (focus (exact opr_call_ls (by rfl) (X1 ..) (by rfl) lpa)); (rintro _ _ ⟨rfl, rfl⟩)) | fail))
  exact pst_fin rfl (by exact resa) _ (⟨rfl, rfl⟩) (by exact hsa)
theorem open_any {s t : List UInt8} (hs : s.length ≤ 512) (h : PressR s t) : Ct Try.prog 18 [.string (str t)] [] fun v H' => v = .tuple #[.string (str s), .int .i64 0] ∧ H' = [] := by
  rcases h with ⟨hz, rfl⟩ | ⟨_, out, hF, ⟨_, rfl⟩ | ⟨_, rfl⟩⟩
  · have e : s = List.replicate s.length 0 := List.eq_replicate_iff.2 ⟨rfl, hz⟩
    have := open_zero s.length hs
    rw [← e] at this
    exact this
  · exact open_marked s hs out hF
  · obtain ⟨g1, g2, g3⟩ := get_putL s.length s hs
    have l1 := put_len s.length
    have := open_raw (put.putB s.length ++ s) s (by rw [List.length_append]; omega) g1 g2 g3
    have e : rawO s.length s = (s, 0) := by unfold rawO; rw [if_pos ⟨hs, rfl⟩]
    rw [e] at this
    exact this
end Go.Proofs.Ytppnaofebkpbkaa.press
