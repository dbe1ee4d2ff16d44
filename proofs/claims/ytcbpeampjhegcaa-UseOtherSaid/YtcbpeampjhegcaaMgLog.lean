/-
  Several texts in one: DocCell, DocLogA, DocIno.
-/
import Derived.Test.YtcbpeampjhegcaaDiskNow
import Derived.Test.YtcbpeampjhegcaaSlOwn
import Derived.Test.YtcbpeampjhegcaaMgBlob
import Derived.Test.YtcbpeampjhegcaaMgUse
import Derived.Test.YtcbpeampjhegcaaMgDoc
import Derived.Test.YtcbpeampjhegcaaFixLaw
/-
  linenref.Cell, where every write is kept: the walk.
-/
namespace Go.Proofs.Ytcbpeampjhegcaa.ref
open Go.RowKit kit sl Go.Proofs.Ytcbpeampjhegcaa.disk
set_option linter.unusedVariables false
theorem opr_callv_ls {P : Program} {n : Nat} {F : Frm} {H : List Ent} {o : Oper} {f : FuncId} [hc : Cal P f] {x : Operand} {args : List Operand} {ts : Array TypeId} {vs : List Value} {u : Value} (ho : o.op = .call { callee := .value x, args := args.toArray, argTypes := ts }) (hx : ev F x = some (.func (.func f) #[] #[])) (hv : evl F args = some vs) (hs : Ct P f vs [] fun v H' => v = u ∧ H' = []) : Opr P n o F H fun v H' => v = u ∧ H' = H := fun Q a w next ha hw hn => by
  have hs' : Ct P f ([] ++ vs ++ []) [] fun v H' => v = u ∧ H' = [] := by simpa using hs
  exact opr_callv (first := []) (cap := []) ho hx hv hs' (Picks.nil (List.Sublist.refl _)) Q a w next ha hw fun v H' w' ⟨H1, ⟨h1, h2⟩, h3⟩ hw' => hn v H' w' ⟨h1, by rw [h3, h2]; rfl⟩ hw'
/-- what is read of a cell, all writes landed -/
def cellR : ByteArray → List (Int × ByteArray) → Int → ByteArray
  | o, [], _ => o
  | o, p :: ps, a => cellR (if p.1 = a then p.2 else o) ps a
theorem cellR_take {ps : List (Int × ByteArray)} {k : Nat} {p : Int × ByteArray} (hp : ps[k]? = some p) : ∀ o a, cellR o (ps.take (k + 1)) a = if p.1 = a then p.2 else cellR o (ps.take k) a := by
  induction ps generalizing k with
  | nil => simp at hp
  | cons q ps ih =>
    intro o a
    cases k with
    | zero =>
      simp at hp
      subst hp
      simp [cellR]
    | succ k =>
      simp only [List.take_succ_cons, cellR]
      exact ih (by simpa using hp) _ _
theorem cellR_find : ∀ (ps : List (Int × ByteArray)) (o : ByteArray) (a : Int), cellR o ps a = match ps.reverse.find? (fun p => p.1 == a) with | some p => p.2 | none => o
  | [], o, a => rfl
  | p :: ps, o, a => by
    rw [cellR, cellR_find ps, List.reverse_cons, List.find?_append]
    cases ps.reverse.find? (fun p => p.1 == a) with
    | some q => rfl
    | none =>
      by_cases h : p.1 = a
      · simp [h]
      · simp [h]
theorem cellR_now {cs : List ByteArray} {ps : List (Int × ByteArray)} {i : Nat} {s : ByteArray} (hs : cs[i]? = some s) : cellR s ps (i : Int) = nowD cs ps (i : Int) := by
  rw [cellR_find]
  unfold nowD
  cases ps.reverse.find? (fun p => p.1 == (i : Int)) with
  | some q => rfl
  | none =>
    show s = cs.getD ((i : Int)).toNat ⟨#[]⟩
    rw [Int.toNat_natCast, List.getD_eq_getElem?_getD, hs]
    rfl
attribute [local irreducible] box own sl old bptr eptr Qt Opr Run Cod Pst Drn
set_option maxRecDepth 100000 in
set_option maxHeartbeats 8000000 in
theorem every_any (i : Int) : Ct Try.prog 32 [.int .i64 i] [] fun v H' => v = .bool true ∧ H' = [] := by
  (refine spec_enter Try.func32 Try.ntmps32 rfl rfl fun Fr => ?_; dsimp only [List.cons_append, List.nil_append, ini, Nat.reduceAdd])
  (repeat' (first | (apply run_qg 1; (focus rfl); (focus exact wt); (focus rfl); (focus (exact qg1))) | refine cod_seq ?_ | refine cod_region ?_ | refine run_nil ?_ | refine pst_then ?_ | refine cod_ret ?_))
  exact pst_fin rfl (by exact resa) _ (⟨rfl, rfl⟩) (by exact hsa)
set_option maxRecDepth 100000 in
set_option maxHeartbeats 8000000 in
theorem cell_any (a w : Option Addr) (ca cw : Nat) (cs : List ByteArray) (ps : List (Int × ByteArray)) (i : Nat) (s : ByteArray) (hs : cs[i]? = some s) (hp : ps.length ≤ maxLen) :
    Ct Try.prog 31 [.agg #[.slice a cs.length ca, .slice w ps.length cw], .int .i64 (i : Int), .func (.func 32) #[] #[]] [sl 1 (.slice a cs.length ca) (cs.map fS), sl 2 (.slice w ps.length cw) (ps.map fP)] fun v H' => v = .string (cellR s ps (i : Int)) ∧ H' = [] := by
  unfold maxLen at hp
  have hi : i < cs.length := (List.getElem?_eq_some_iff.1 hs).1
  (refine spec_enter Try.func31 Try.ntmps31 rfl rfl fun Fr => ?_; dsimp only [List.cons_append, List.nil_append, ini, Nat.reduceAdd])
  (repeat' (first | (apply run_qg 1; (focus rfl); (focus exact wt); (focus rfl); (focus (exact qg1))) | (apply run_qg 2; (focus rfl); (focus exact wt); (focus rfl); (focus (first | exact qg2 | exact qs2))) | (apply run_qg 3; (focus rfl); (focus exact wt); (focus rfl); (focus (first | exact qg3 | exact qs3))) | (apply run_qg 6; (focus rfl); (focus exact wt); (focus rfl); (focus (first | exact qs6 | exact qg6 | exact q_max rfl rfl rfl | exact q_sliceData rfl rfl (by omega) | exact q_sliceDataN rfl rfl | exact q_unsafeStringN rfl rfl rfl | exact q_cap_slice rfl rfl))) | refine cod_seq ?_ | refine cod_region ?_ | refine run_nil ?_ | refine pst_then ?_ | refine cod_block ?_ | (apply run_osg 8; (focus rfl); (focus exact wt); (focus rfl); (focus (exact opr_box_agg rfl rfl)); (rintro _ _ ⟨b, rfl, rfl⟩))))
  (refine cod_loop_ro (σ := Nat × ByteArray) (fun k => k.1 ≤ ps.length ∧ k.2 = cellR s (ps.take k.1) (i : Int)) (fun k => [(18, .int .i64 (k.1 : Int)), (7, .string k.2)]) (fun k => ps.length - k.1) ((0, s)) (by exact ⟨Nat.zero_le _, rfl⟩) (by exact fsa) (fun ⟨k, o⟩ ⟨hk, ho⟩ => ?_); dsimp only [List.cons_append, List.nil_append])
  dsimp only at hk ho
  rcases get_or ps k with ⟨p, hpk, hlt⟩ | hge
  · have hT := cellR_take hpk s (i : Int)
    rw [← ho] at hT
    obtain ⟨p1, t⟩ := p
    dsimp only at hT
    by_cases h1 : p1 = (i : Int)
    · rw [if_pos h1] at hT
      (repeat' (first | (apply run_qg 1; (focus rfl); (focus exact wt); (focus rfl); (focus (exact qg1))) | (apply run_qg 2; (focus rfl); (focus exact wt); (focus rfl); (focus (first | exact qg2 | exact qs2))) | (apply run_qg 3; (focus rfl); (focus exact wt); (focus rfl); (focus (first | exact qg3 | exact qs3))) | (apply run_qg 4; (focus rfl); (focus exact wt); (focus rfl); (focus (first | exact qg4 | exact qs4))) | refine cod_seq ?_ | refine cod_region ?_ | refine run_nil ?_ | refine pst_then ?_ | (apply cod_cond_t; (focus rfl)) | refine cod_block ?_ | refine cod_skip ?_ | (apply run_osg 8; (focus rfl); (focus exact wt); (focus rfl); (focus (exact opr_new rfl)); (rintro _ _ ⟨b, rfl, rfl⟩)) | (apply run_ong 9; (focus rfl); (focus exact wt); (focus (exact opr_store_box_agg rfl rfl rfl (by exact pka) rfl rfl rfl (by exact spla))); (rintro _ _ ⟨rfl, rfl⟩))))
      (refine run_os wt (by rfl) (opr_callv_ls rfl rfl rfl (every_any _)) ?_; rintro _ _ ⟨rfl, rfl⟩)
      (repeat' (first | (apply run_qg 1; (focus rfl); (focus exact wt); (focus rfl); (focus (exact qg1))) | (apply run_qg 2; (focus rfl); (focus exact wt); (focus rfl); (focus (first | exact qg2 | exact qs2))) | (apply run_qg 3; (focus rfl); (focus exact wt); (focus rfl); (focus (first | exact qg3 | exact qs3))) | (apply run_qg 4; (focus rfl); (focus exact wt); (focus rfl); (focus (first | exact qg4 | exact qs4))) | refine cod_region ?_ | refine run_nil ?_ | refine pst_then ?_ | (apply cod_cond_t; (focus rfl)) | refine pst_block ?_))
      refine pst_again ((k + 1, t)) ?_ (FSub.of (by (try dsimp only); exact fsa)) (by (try dsimp only); exact hsa) ?_
      · exact ⟨hlt, hT.symm⟩
      · show ps.length - (k + 1) < ps.length - k
        omega
    · rw [if_neg h1] at hT
      (repeat' (first | (apply run_qg 1; (focus rfl); (focus exact wt); (focus rfl); (focus (exact qg1))) | (apply run_qg 2; (focus rfl); (focus exact wt); (focus rfl); (focus (first | exact qg2 | exact qs2))) | (apply run_qg 3; (focus rfl); (focus exact wt); (focus rfl); (focus (first | exact qg3 | exact qs3))) | (apply run_qg 4; (focus rfl); (focus exact wt); (focus rfl); (focus (first | exact qg4 | exact qs4))) | refine cod_seq ?_ | refine cod_region ?_ | refine run_nil ?_ | refine pst_then ?_ | (apply cod_cond_t; (focus rfl)) | (apply cod_cond_f; (focus rfl)) | refine cod_block ?_ | refine cod_skip ?_ | refine pst_block ?_ | (apply run_osg 8; (focus rfl); (focus exact wt); (focus rfl); (focus (exact opr_new rfl)); (rintro _ _ ⟨b, rfl, rfl⟩)) | (apply run_ong 9; (focus rfl); (focus exact wt); (focus (exact opr_store_box_agg rfl rfl rfl (by exact pka) rfl rfl rfl (by exact spla))); (rintro _ _ ⟨rfl, rfl⟩)) | (apply run_offs; (focus rfl); (focus rfl); (focus rfl))))
      refine pst_again ((k + 1, o)) ?_ (FSub.of (by (try dsimp only); exact fsa)) (by (try dsimp only); exact hsa) ?_
      · exact ⟨hlt, hT.symm⟩
      · show ps.length - (k + 1) < ps.length - k
        omega
  · rw [List.take_of_length_le hge] at ho
    subst ho
    (repeat' (first | (apply run_qg 1; (focus rfl); (focus exact wt); (focus rfl); (focus (exact qg1))) | (apply run_qg 4; (focus rfl); (focus exact wt); (focus rfl); (focus (first | exact qg4 | exact qs4))) | refine cod_seq ?_ | refine cod_region ?_ | refine run_nil ?_ | refine pst_then ?_ | (apply cod_cond_f; (focus rfl)) | refine cod_exit ?_ | refine cod_ret ?_ | refine pst_block_here ?_ | refine pst_then_exit ?_))
    exact pst_fin rfl (by exact resa) _ (⟨rfl, rfl⟩) (by exact hsa)
end Go.Proofs.Ytcbpeampjhegcaa.ref
/-
  linenref.LogCell: the walk.
-/
namespace Go.Proofs.Ytcbpeampjhegcaa.use
open Go.RowKit kit sl Go.Proofs.Ytcbpeampjhegcaa.seal Go.Proofs.Ytcbpeampjhegcaa.disk Go.Proofs.Ytcbpeampjhegcaa.blob
set_option linter.unusedVariables false
theorem unblob_some {L : List UInt8} {zs : List Blob} (hL : L.length ≤ 1000000000000000) (h : readO L = some zs) : Ct Try.prog 33 [.string (str L)] [] fun v H' => ∃ q c, v = .tuple #[.slice q zs.length c, .bool ((L.getD 0 0).toNat == 1), .int .i64 0] ∧ H' = [own (.slice q zs.length c) 56 4 zs.length (flat fBl zs)] :=
  ct_mono (unblob_any L hL) fun v H' h2 => by
    rcases h2 with ⟨zs', q, c, e, h3, h4⟩ | ⟨e, _⟩
    · rw [h] at e; cases e; exact ⟨q, c, h3, h4⟩
    · rw [h] at e; cases e
theorem unblob_none {L : List UInt8} (hL : L.length ≤ 1000000000000000) (h : readO L = none) : Ct Try.prog 33 [.string (str L)] [] fun v H' => v = .tuple #[.slice none 0 0, .bool false, .int .i64 4] ∧ H' = [] :=
  ct_mono (unblob_any L hL) fun v H' h2 => by
    rcases h2 with ⟨zs', q, c, e, _⟩ | ⟨_, h3⟩
    · rw [h] at e; cases e
    · exact h3
attribute [local irreducible] box own sl old bptr eptr Qt Opr Run Cod Pst Drn
set_option maxRecDepth 100000 in
set_option maxHeartbeats 8000000 in
theorem doclog_any (a w : Option Addr) (ca cw : Nat) (cs : Cells) (ps : Waits) (k : Nat) (h2 : 2 ≤ k) (hk : k < cs.length) (hg : disk.Good cs ps) :
    Ct Try.prog 24 [.agg #[.slice a cs.length ca, .slice w ps.length cw], .int .i64 (k : Int)] [sl 1 (.slice a cs.length ca) (cs.map fS), sl 2 (.slice w ps.length cw) (ps.map fP)] (CellR cs ps k) := by
  have hw := hg.wait
  have hn1 := hg.n1
  obtain ⟨s, hs⟩ : ∃ s, cs[k]? = some s := ⟨_, List.getElem?_eq_getElem hk⟩
  have N0 := Go.Proofs.Ytcbpeampjhegcaa.ref.cell_any a w ca cw cs ps k s hs (by unfold maxLen; omega)
  rw [Go.Proofs.Ytcbpeampjhegcaa.ref.cellR_now hs] at N0
  have hb := now_bd hg (k : Int)
  rw [now_str] at N0 hb
  rw [str_size] at hb
  obtain ⟨l, hl⟩ : ∃ l, nowL cs ps k = l := ⟨_, rfl⟩
  rw [hl] at N0 hb
  have O0 := docopen_eq l (by omega)
  have hob : (openB l).length ≤ 1024 := by unfold openB cutB; rw [List.length_take, List.length_drop]; omega
  by_cases hE : openE l = 0
  · rw [openV_ok hE] at O0
    by_cases hK : openK l = 1
    · cases hr : readO (openB l) with
      | some zs =>
        have R0 := unblob_some (by omega) hr
        have hlog : logF cs ps k = some (openN l, zs, ((openB l).getD 0 0).toNat == 1) := by unfold logF; rw [hl, if_pos ⟨hE, hK⟩, hr]; rfl
        rw [hK] at O0
        unfold CellR
        rw [hlog]
        generalize (((openB l).getD 0 0).toNat == 1) = bb at *
        generalize openN l = nn at *
        generalize openB l = bl at *
        clear hE hK
        (refine spec_enter Try.func24 Try.ntmps24 rfl rfl fun Fr => ?_; dsimp only [List.cons_append, List.nil_append, ini, Nat.reduceAdd])
        (repeat' (first | (apply run_qg 1; (focus rfl); (focus exact wt); (focus rfl); (focus (exact qg1))) | (apply run_qg 2; (focus rfl); (focus exact wt); (focus rfl); (focus (first | exact qg2 | exact qs2))) | (apply run_qg 3; (focus rfl); (focus exact wt); (focus rfl); (focus (first | exact qg3 | exact qs3))) | (apply run_qg 4; (focus rfl); (focus exact wt); (focus rfl); (focus (first | exact qg4 | exact qs4))) | (apply run_qg 6; (focus rfl); (focus exact wt); (focus rfl); (focus (first | exact qs6 | exact qg6 | exact q_max rfl rfl rfl | exact q_sliceData rfl rfl (by omega) | exact q_sliceDataN rfl rfl | exact q_unsafeStringN rfl rfl rfl | exact q_cap_slice rfl rfl))) | refine cod_seq ?_ | refine cod_region ?_ | refine run_nil ?_ | refine pst_then ?_ | (apply cod_cond_f; (focus rfl)) | refine cod_skip ?_ | (apply run_osg 8; (focus rfl); (focus exact wt); (focus rfl); (focus (exact opr_box_agg rfl rfl)); (rintro _ _ ⟨b, rfl, rfl⟩)) | (apply run_osg 7; (focus rfl); (focus exact wt); (focus rfl); (focus (exact opr_call_ls (by rfl) (N0 ..) (by rfl) lpa)); (rintro _ _ ⟨rfl, rfl⟩)) | (apply run_osg 7; (focus rfl); (focus exact wt); (focus rfl); (focus (exact opr_call_ls (by rfl) (O0 ..) (by rfl) lpa)); (rintro _ _ ⟨rfl, rfl⟩))))
        (refine run_os wt rfl (opr_call_l rfl (R0) rfl (by exact lpa)) ?_; rintro _ _ ⟨_, ⟨q, c, rfl, rfl⟩, rfl⟩; dsimp only [List.cons_append, List.nil_append])
        (repeat' (first | (apply run_qg 1; (focus rfl); (focus exact wt); (focus rfl); (focus (exact qg1))) | (apply run_qg 4; (focus rfl); (focus exact wt); (focus rfl); (focus (first | exact qg4 | exact qs4))) | refine cod_seq ?_ | refine cod_region ?_ | refine run_nil ?_ | refine pst_then ?_ | refine cod_ret ?_))
        exact pst_fin rfl (by exact resa) _ (.inl ⟨_, _, _, q, c, rfl, rfl, rfl⟩) (by exact hsa)
      | none =>
        have R0 := unblob_none (by omega) hr
        have hlog : logF cs ps k = none := by unfold logF; rw [hl, if_pos ⟨hE, hK⟩, hr]; rfl
        rw [hK] at O0
        unfold CellR
        rw [hlog]
        generalize openN l = nn at *
        generalize openB l = bl at *
        clear hE hK
        (refine spec_enter Try.func24 Try.ntmps24 rfl rfl fun Fr => ?_; dsimp only [List.cons_append, List.nil_append, ini, Nat.reduceAdd])
        (repeat' (first | (apply run_qg 1; (focus rfl); (focus exact wt); (focus rfl); (focus (exact qg1))) | (apply run_qg 2; (focus rfl); (focus exact wt); (focus rfl); (focus (first | exact qg2 | exact qs2))) | (apply run_qg 3; (focus rfl); (focus exact wt); (focus rfl); (focus (first | exact qg3 | exact qs3))) | (apply run_qg 4; (focus rfl); (focus exact wt); (focus rfl); (focus (first | exact qg4 | exact qs4))) | (apply run_qg 6; (focus rfl); (focus exact wt); (focus rfl); (focus (first | exact qs6 | exact qg6 | exact q_max rfl rfl rfl | exact q_sliceData rfl rfl (by omega) | exact q_sliceDataN rfl rfl | exact q_unsafeStringN rfl rfl rfl | exact q_cap_slice rfl rfl))) | refine cod_seq ?_ | refine cod_region ?_ | refine run_nil ?_ | refine pst_then ?_ | (apply cod_cond_f; (focus rfl)) | refine cod_ret ?_ | refine cod_skip ?_ | (apply run_osg 8; (focus rfl); (focus exact wt); (focus rfl); (focus (exact opr_box_agg rfl rfl)); (rintro _ _ ⟨b, rfl, rfl⟩)) | (apply run_osg 7; (focus rfl); (focus exact wt); (focus rfl); (focus (exact opr_call_ls (by rfl) (N0 ..) (by rfl) lpa)); (rintro _ _ ⟨rfl, rfl⟩)) | (apply run_osg 7; (focus rfl); (focus exact wt); (focus rfl); (focus (exact opr_call_ls (by rfl) (O0 ..) (by rfl) lpa)); (rintro _ _ ⟨rfl, rfl⟩)) | (apply run_osg 7; (focus rfl); (focus exact wt); (focus rfl); (focus (exact opr_call_ls (by rfl) (R0 ..) (by rfl) lpa)); (rintro _ _ ⟨rfl, rfl⟩))))
        exact pst_fin rfl (by exact resa) _ (.inr ⟨rfl, _, rfl, rfl⟩) (by exact hsa)
    · have hlog : logF cs ps k = none := by unfold logF; rw [hl, if_neg (fun h => hK h.2)]
      unfold CellR
      rw [hlog]
      generalize openN l = nn at *
      generalize openB l = bl at *
      generalize openK l = kk at *
      clear hE
      (refine spec_enter Try.func24 Try.ntmps24 rfl rfl fun Fr => ?_; dsimp only [List.cons_append, List.nil_append, ini, Nat.reduceAdd])
      (repeat' (first | (apply run_qg 1; (focus rfl); (focus exact wt); (focus rfl); (focus (exact qg1))) | (apply run_qg 2; (focus rfl); (focus exact wt); (focus rfl); (focus (first | exact qg2 | exact qs2))) | (apply run_qg 3; (focus rfl); (focus exact wt); (focus rfl); (focus (first | exact qg3 | exact qs3))) | (apply run_qg 4; (focus rfl); (focus exact wt); (focus rfl); (focus (first | exact qg4 | exact qs4))) | (apply run_qg 6; (focus rfl); (focus exact wt); (focus rfl); (focus (first | exact qs6 | exact qg6 | exact q_max rfl rfl rfl | exact q_sliceData rfl rfl (by omega) | exact q_sliceDataN rfl rfl | exact q_unsafeStringN rfl rfl rfl | exact q_cap_slice rfl rfl))) | refine cod_seq ?_ | refine cod_region ?_ | refine run_nil ?_ | refine pst_then ?_ | (apply cod_cond_t; (focus rfl)) | (apply cod_cond_f; (focus rfl)) | refine cod_ret ?_ | refine cod_skip ?_ | refine pst_then_ret ?_ | (apply run_osg 8; (focus rfl); (focus exact wt); (focus rfl); (focus (exact opr_box_agg rfl rfl)); (rintro _ _ ⟨b, rfl, rfl⟩)) | (apply run_osg 7; (focus rfl); (focus exact wt); (focus rfl); (focus (exact opr_call_ls (by rfl) (N0 ..) (by rfl) lpa)); (rintro _ _ ⟨rfl, rfl⟩)) | (apply run_osg 7; (focus rfl); (focus exact wt); (focus rfl); (focus (exact opr_call_ls (by rfl) (O0 ..) (by rfl) lpa)); (rintro _ _ ⟨rfl, rfl⟩))))
      exact pst_fin rfl (by exact resa) _ (.inr ⟨rfl, _, rfl, rfl⟩) (by exact hsa)
  · rw [openV_no hE] at O0
    have hlog : logF cs ps k = none := by unfold logF; rw [hl, if_neg (fun h => hE h.1)]
    unfold CellR
    rw [hlog]
    generalize openE l = ee at *
    (refine spec_enter Try.func24 Try.ntmps24 rfl rfl fun Fr => ?_; dsimp only [List.cons_append, List.nil_append, ini, Nat.reduceAdd])
    (repeat' (first | (apply run_qg 1; (focus rfl); (focus exact wt); (focus rfl); (focus (exact qg1))) | (apply run_qg 2; (focus rfl); (focus exact wt); (focus rfl); (focus (first | exact qg2 | exact qs2))) | (apply run_qg 3; (focus rfl); (focus exact wt); (focus rfl); (focus (first | exact qg3 | exact qs3))) | (apply run_qg 4; (focus rfl); (focus exact wt); (focus rfl); (focus (first | exact qg4 | exact qs4))) | (apply run_qg 6; (focus rfl); (focus exact wt); (focus rfl); (focus (first | exact qs6 | exact qg6 | exact q_max rfl rfl rfl | exact q_sliceData rfl rfl (by omega) | exact q_sliceDataN rfl rfl | exact q_unsafeStringN rfl rfl rfl | exact q_cap_slice rfl rfl))) | refine cod_seq ?_ | refine cod_region ?_ | refine run_nil ?_ | refine pst_then ?_ | (apply cod_cond_t; (focus rfl)) | (apply cod_cond_f; (focus rfl)) | refine cod_ret ?_ | refine cod_skip ?_ | refine pst_then_ret ?_ | (apply run_osg 8; (focus rfl); (focus exact wt); (focus rfl); (focus (exact opr_box_agg rfl rfl)); (rintro _ _ ⟨b, rfl, rfl⟩)) | (apply run_offs; (focus rfl); (focus rfl); (focus rfl)) | (apply run_osg 7; (focus rfl); (focus exact wt); (focus rfl); (focus (exact opr_call_ls (by rfl) (N0 ..) (by rfl) lpa)); (rintro _ _ ⟨rfl, rfl⟩)) | (apply run_osg 7; (focus rfl); (focus exact wt); (focus rfl); (focus (exact opr_call_ls (by rfl) (O0 ..) (by rfl) lpa)); (rintro _ _ ⟨rfl, rfl⟩))))
    exact pst_fin rfl (by exact resa) _ (.inr ⟨rfl, _, rfl, rfl⟩) (by exact hsa)
set_option maxRecDepth 100000 in
set_option maxHeartbeats 8000000 in
theorem doclog_two (a w : Option Addr) (ca cw : Nat) (n m : Nat) (cs : Cells) (ps : Waits) (k : Nat) (h2 : k < 2) :
    Ct Try.prog 24 [.agg #[.slice a n ca, .slice w m cw], .int .i64 (k : Int)] [sl 1 (.slice a n ca) (cs.map fS), sl 2 (.slice w m cw) (ps.map fP)] fun v H' => v = .tuple #[.int .i64 0, .slice none 0 0, .bool false, .bool false] ∧ H' = [] := by
  (refine spec_enter Try.func24 Try.ntmps24 rfl rfl fun Fr => ?_; dsimp only [List.cons_append, List.nil_append, ini, Nat.reduceAdd])
  (repeat' (first | (apply run_qg 1; (focus rfl); (focus exact wt); (focus rfl); (focus (exact qg1))) | (apply run_qg 4; (focus rfl); (focus exact wt); (focus rfl); (focus (first | exact qg4 | exact qs4))) | refine cod_seq ?_ | refine cod_region ?_ | refine run_nil ?_ | refine pst_then ?_ | (apply cod_cond_t; (focus rfl)) | refine cod_ret ?_ | refine pst_then_ret ?_ | (apply run_osg 8; (focus rfl); (focus exact wt); (focus rfl); (focus (exact opr_box_agg rfl rfl)); (rintro _ _ ⟨b, rfl, rfl⟩)) | (apply run_offs; (focus rfl); (focus rfl); (focus rfl))))
  exact pst_fin rfl (by exact resa) _ (⟨rfl, rfl⟩) (by exact hsa)
theorem doclog_some {a w : Option Addr} {ca cw : Nat} {cs : Cells} {ps : Waits} {k : Nat} {n : Int} {zs : List Blob} {b : Bool} (h2 : 2 ≤ k) (hk : k < cs.length) (hg : disk.Good cs ps) (h : logF cs ps k = some (n, zs, b)) :
    Ct Try.prog 24 [.agg #[.slice a cs.length ca, .slice w ps.length cw], .int .i64 (k : Int)] [sl 1 (.slice a cs.length ca) (cs.map fS), sl 2 (.slice w ps.length cw) (ps.map fP)] fun v H' => ∃ q c, v = .tuple #[.int .i64 n, .slice q zs.length c, .bool b, .bool true] ∧ H' = [own (.slice q zs.length c) 56 4 zs.length (flat fBl zs)] :=
  ct_mono (doclog_any a w ca cw cs ps k h2 hk hg) fun v H' h2 => by
    rcases h2 with ⟨n', zs', b', q, c, e, h3, h4⟩ | ⟨e, _⟩
    · rw [h] at e; cases e; exact ⟨q, c, h3, h4⟩
    · rw [h] at e; cases e
theorem doclog_none {a w : Option Addr} {ca cw : Nat} {cs : Cells} {ps : Waits} {k : Nat} (h2 : 2 ≤ k) (hk : k < cs.length) (hg : disk.Good cs ps) (h : logF cs ps k = none) :
    Ct Try.prog 24 [.agg #[.slice a cs.length ca, .slice w ps.length cw], .int .i64 (k : Int)] [sl 1 (.slice a cs.length ca) (cs.map fS), sl 2 (.slice w ps.length cw) (ps.map fP)] fun v H' => ∃ n, v = .tuple #[.int .i64 n, .slice none 0 0, .bool false, .bool false] ∧ H' = [] :=
  ct_mono (doclog_any a w ca cw cs ps k h2 hk hg) fun v H' h2 => by
    rcases h2 with ⟨n', zs', b', q, c, e, _⟩ | ⟨_, n, h3, h4⟩
    · rw [h] at e; cases e
    · exact ⟨n, h3, h4⟩
end Go.Proofs.Ytcbpeampjhegcaa.use
/-
  linenref.Right, linenref.Inode, linenref.InodeText, linenref.ReadInode: the walks, where an inode is right.
-/
namespace Go.Proofs.Ytcbpeampjhegcaa.inode
open Go.RowKit kit sl imap Go.Proofs.Ytcbpeampjhegcaa.seal Go.Proofs.Ytcbpeampjhegcaa.fix Go.Proofs.Ytcbpeampjhegcaa.sum
set_option linter.unusedVariables false
theorem goodI_all {l : List UInt8} (h : goodI l) : (kI l = 1 ∨ kI l = 2) ∧ (0 ≤ gI l ∧ gI l ≤ 2147483647) ∧ (0 ≤ zI l ∧ zI l ≤ 4096) ∧ ((pI l).length : Int) = (zI l + 512 - 1) / 512 := by
  have h2 := h.2.2
  unfold checkI at h2
  split at h2
  · cases h2
  · split at h2
    · cases h2
    · split at h2
      · cases h2
      · refine ⟨by omega, by omega, by omega, by omega⟩
theorem pI_len {l : List UInt8} (h : goodI l) : l.length = 7 + 2 * (pI l).length := by
  have key : ∀ (n : Nat) (r : List UInt8), r.length ≤ n → r.length % 2 = 0 → r.length = 2 * (prs r).length := by
    intro n
    induction n using Nat.strongRecOn with
    | _ n ih =>
      intro r hn h2
      match r, hn, h2 with
      | [], _, _ => rfl
      | [a], _, h2 => simp at h2
      | a :: b :: r, hn, h2 =>
        simp only [List.length_cons] at hn h2 ⊢
        rw [prs, List.length_cons]
        have := ih (n - 2) (by omega) r (by omega) (by omega)
        omega
  have := key _ (l.drop 7) (Nat.le_refl _) (by rw [List.length_drop]; have := h.1; have := h.2.1; omega)
  rw [List.length_drop] at this
  have h7 := h.1
  unfold pI
  omega
theorem pI_at {l : List UInt8} (h : goodI l) {i : Nat} {p : Int × Int} (hp : (pI l)[i]? = some p) : ∃ x y : UInt8, l[7 + 2 * i]? = some x ∧ l[7 + 2 * i + 1]? = some y ∧ p = ((x.toNat : Int), (y.toNat : Int)) := by
  have key : ∀ (i : Nat) (r : List UInt8) (p : Int × Int), (prs r)[i]? = some p → ∃ x y : UInt8, r[2 * i]? = some x ∧ r[2 * i + 1]? = some y ∧ p = ((x.toNat : Int), (y.toNat : Int)) := by
    intro i
    induction i with
    | zero =>
      intro r p hp
      match r, hp with
      | [], hp => cases hp
      | [a], hp => cases hp
      | a :: b :: r, hp => cases hp; exact ⟨a, b, rfl, rfl, rfl⟩
    | succ i ih =>
      intro r p hp
      match r, hp with
      | [], hp => cases hp
      | [a], hp => cases hp
      | a :: b :: r, hp =>
        rw [prs, List.getElem?_cons_succ] at hp
        obtain ⟨x, y, h1, h2, h3⟩ := ih r p hp
        exact ⟨x, y, by rw [show 2 * (i + 1) = 2 * i + 1 + 1 by omega]; simpa using h1, by rw [show 2 * (i + 1) + 1 = 2 * i + 1 + 1 + 1 by omega]; simpa using h2, h3⟩
  obtain ⟨x, y, h1, h2, h3⟩ := key i (l.drop 7) p hp
  rw [List.getElem?_drop] at h1 h2
  exact ⟨x, y, h1, by rw [show 7 + 2 * i + 1 = 7 + (2 * i + 1) by omega]; exact h2, h3⟩
theorem fix_two (x y : UInt8) : fixB (x.toNat * 256 + y.toNat) 2 = [x, y] := by
  have hx := x.toNat_lt
  have hy := y.toNat_lt
  show [UInt8.ofNat ((x.toNat * 256 + y.toNat) / 256 ^ 1 % 256), UInt8.ofNat ((x.toNat * 256 + y.toNat) / 256 ^ 0 % 256)] = [x, y]
  rw [show (x.toNat * 256 + y.toNat) / 256 ^ 1 % 256 = x.toNat by omega, show (x.toNat * 256 + y.toNat) / 256 ^ 0 % 256 = y.toNat by omega]
  simp
theorem take_two {l : List UInt8} {k : Nat} {x y : UInt8} (h1 : l[k]? = some x) (h2 : l[k + 1]? = some y) : l.take (k + 2) = l.take k ++ [x, y] := by
  rw [List.take_add_one, List.take_add_one, h1, h2]
  simp
attribute [local irreducible] box own sl old bptr eptr Qt Opr Run Cod Pst Drn
set_option maxRecDepth 100000 in
set_option maxHeartbeats 8000000 in
theorem docright_any (p : Int × Int) (h : Okay p) : Ct Try.prog 48 [.agg #[.int .i64 p.1, .int .i64 p.2]] [] fun v H' => v = .bool true ∧ H' = [] := by
  unfold Okay at h
  by_cases h0 : p.1 = 0
  · have he : p = (0, 0) := Prod.ext h0 (by show p.2 = 0; omega)
    subst he
    (refine spec_enter Try.func48 Try.ntmps48 rfl rfl fun Fr => ?_; dsimp only [List.cons_append, List.nil_append, ini, Nat.reduceAdd])
    (repeat' (first | (apply run_qg 1; (focus rfl); (focus exact wt); (focus rfl); (focus (exact qg1))) | (apply run_qg 2; (focus rfl); (focus exact wt); (focus rfl); (focus (first | exact qg2 | exact qs2))) | (apply run_qg 5; (focus rfl); (focus exact wt); (focus rfl); (focus (exact qg5))) | refine cod_seq ?_ | refine cod_region ?_ | refine run_nil ?_ | refine pst_then ?_ | (apply run_osg 8; (focus rfl); (focus exact wt); (focus rfl); (focus (exact opr_box_agg rfl rfl)); (rintro _ _ ⟨b, rfl, rfl⟩))))
    refine run_qg 4 rfl wt rfl (q_veql_t (p := ((0, 0) : Int × Int)) (q := ((0, 0) : Int × Int)) rfl rfl rfl rfl) ?_
    (repeat' (first | (apply run_qg 1; (focus rfl); (focus exact wt); (focus rfl); (focus (exact qg1))) | refine run_nil ?_ | refine pst_then ?_ | refine cod_ret ?_ | (apply run_offs; (focus rfl); (focus rfl); (focus rfl)) | (apply run_offus; (focus rfl); (focus rfl); (focus rfl))))
    exact pst_fin rfl (by exact resa) _ (⟨rfl, rfl⟩) (by exact hsa)
  · have hne : p ≠ (0, 0) := fun e => h0 (by rw [e])
    (refine spec_enter Try.func48 Try.ntmps48 rfl rfl fun Fr => ?_; dsimp only [List.cons_append, List.nil_append, ini, Nat.reduceAdd])
    (repeat' (first | (apply run_qg 1; (focus rfl); (focus exact wt); (focus rfl); (focus (exact qg1))) | (apply run_qg 2; (focus rfl); (focus exact wt); (focus rfl); (focus (first | exact qg2 | exact qs2))) | (apply run_qg 5; (focus rfl); (focus exact wt); (focus rfl); (focus (exact qg5))) | refine cod_seq ?_ | refine cod_region ?_ | refine run_nil ?_ | refine pst_then ?_ | (apply run_osg 8; (focus rfl); (focus exact wt); (focus rfl); (focus (exact opr_box_agg rfl rfl)); (rintro _ _ ⟨b, rfl, rfl⟩))))
    refine run_qg 4 rfl wt rfl (q_veql_f (p := p) (q := ((0, 0) : Int × Int)) rfl rfl rfl hne) ?_
    clear hne
    (repeat' (first | (apply run_qg 1; (focus rfl); (focus exact wt); (focus rfl); (focus (exact qg1))) | (apply run_qg 2; (focus rfl); (focus exact wt); (focus rfl); (focus (first | exact qg2 | exact qs2))) | (apply run_qg 3; (focus rfl); (focus exact wt); (focus rfl); (focus (first | exact qg3 | exact qs3))) | (apply run_qg 4; (focus rfl); (focus exact wt); (focus rfl); (focus (first | exact qg4 | exact qs4))) | refine run_nil ?_ | refine pst_then ?_ | refine cod_ret ?_))
    exact pst_fin rfl (by exact resa) _ (⟨rfl, rfl⟩) (by exact hsa)
set_option maxRecDepth 100000 in
set_option maxHeartbeats 8000000 in
theorem docinode_any (k g z : Int) (q : Option Addr) (c : Nat) (ps : List (Int × Int)) (hk : k = 1 ∨ k = 2) (hg : 0 ≤ g ∧ g ≤ 2147483647) (hz : 0 ≤ z ∧ z ≤ 4096) (hl : (ps.length : Int) = (z + 512 - 1) / 512) (ho : ∀ p ∈ ps, Okay p) :
    Ct Try.prog 37 [.agg #[.int .i64 k, .int .i64 g, .int .i64 z, .slice q ps.length c]] [sl 2 (.slice q ps.length c) (ps.map fII)] fun v H' => v = .int .i64 0 ∧ H' = [] := by
  have hk1 : 1 ≤ k ∧ k ≤ 2 := by omega
  have hl2 : (ps.length : Int) ≤ 8 ∧ z ≤ 512 * (ps.length : Int) ∧ 512 * (ps.length : Int) < z + 512 := by omega
  clear hl hk
  (refine spec_enter Try.func37 Try.ntmps37 rfl rfl fun Fr => ?_; dsimp only [List.cons_append, List.nil_append, ini, Nat.reduceAdd])
  (repeat' (first | (apply run_qg 1; (focus rfl); (focus exact wt); (focus rfl); (focus (exact qg1))) | (apply run_qg 2; (focus rfl); (focus exact wt); (focus rfl); (focus (first | exact qg2 | exact qs2))) | (apply run_qg 3; (focus rfl); (focus exact wt); (focus rfl); (focus (first | exact qg3 | exact qs3))) | (apply run_qg 4; (focus rfl); (focus exact wt); (focus rfl); (focus (first | exact qg4 | exact qs4))) | (apply run_qg 6; (focus rfl); (focus exact wt); (focus rfl); (focus (first | exact qs6 | exact qg6 | exact q_max rfl rfl rfl | exact q_sliceData rfl rfl (by omega) | exact q_sliceDataN rfl rfl | exact q_unsafeStringN rfl rfl rfl | exact q_cap_slice rfl rfl))) | refine cod_seq ?_ | refine cod_region ?_ | refine run_nil ?_ | refine pst_then ?_ | (apply cod_cond_f; (focus rfl)) | refine cod_block ?_ | refine cod_skip ?_ | (apply run_osg 8; (focus rfl); (focus exact wt); (focus rfl); (focus (exact opr_box_agg rfl rfl)); (rintro _ _ ⟨b, rfl, rfl⟩))))
  (refine cod_loop_ro (σ := Nat) (fun j => j ≤ ps.length) (fun j => [(57, .int .i64 (j : Int))]) (fun j => ps.length - j) (0) (by exact Nat.zero_le _) (by exact fsa) (fun j hj => ?_); dsimp only [List.cons_append, List.nil_append])
  rcases get_or ps j with ⟨p, hp, hlt⟩ | hge
  · have R0 := docright_any p (ho p (List.mem_of_getElem? hp))
    (repeat' (first | (apply run_qg 1; (focus rfl); (focus exact wt); (focus rfl); (focus (exact qg1))) | (apply run_qg 2; (focus rfl); (focus exact wt); (focus rfl); (focus (first | exact qg2 | exact qs2))) | (apply run_qg 3; (focus rfl); (focus exact wt); (focus rfl); (focus (first | exact qg3 | exact qs3))) | (apply run_qg 4; (focus rfl); (focus exact wt); (focus rfl); (focus (first | exact qg4 | exact qs4))) | refine cod_seq ?_ | refine cod_region ?_ | refine run_nil ?_ | refine pst_then ?_ | (apply cod_cond_t; (focus rfl)) | (apply cod_cond_f; (focus rfl)) | refine cod_block ?_ | refine cod_skip ?_ | refine pst_block ?_ | (apply run_osg 8; (focus rfl); (focus exact wt); (focus rfl); (focus (exact opr_new rfl)); (rintro _ _ ⟨b, rfl, rfl⟩)) | (apply run_ong 9; (focus rfl); (focus exact wt); (focus (exact opr_store_box_agg rfl rfl rfl (by exact pka) rfl rfl rfl (by exact spla))); (rintro _ _ ⟨rfl, rfl⟩)) | (apply run_osg 7; (focus rfl); (focus exact wt); (focus rfl); (focus (exact opr_call_ls (by rfl) (R0 ..) (by rfl) lpa)); (rintro _ _ ⟨rfl, rfl⟩))))
    refine pst_again (j + 1) ?_ (FSub.of (by (try dsimp only); exact fsa)) (by (try dsimp only); exact hsa) ?_
    · omega
    · omega
  · have hjl : j = ps.length := by omega
    subst hjl
    (repeat' (first | (apply run_qg 1; (focus rfl); (focus exact wt); (focus rfl); (focus (exact qg1))) | (apply run_qg 4; (focus rfl); (focus exact wt); (focus rfl); (focus (first | exact qg4 | exact qs4))) | refine cod_seq ?_ | refine cod_region ?_ | refine run_nil ?_ | refine pst_then ?_ | (apply cod_cond_f; (focus rfl)) | refine cod_exit ?_ | refine cod_ret ?_ | refine pst_block_here ?_ | refine pst_then_exit ?_))
    exact pst_fin rfl (by exact resa) _ (⟨rfl, rfl⟩) (by exact hsa)
theorem doctext_start {l : List UInt8} (h : goodI l) {b0 : UInt8} (h0 : l[0]? = some b0) : fixB b0.toNat 1 ++ fixB (unfixN (cutB l 1 5)) 4 ++ fixB (unfixN (cutB l 5 7)) 2 = l.take 7 := by
  have h7 := h.1
  have h1 : (cutB l 1 5).length = 4 := by unfold cutB; rw [List.length_take, List.length_drop]; omega
  have h2 : (cutB l 5 7).length = 2 := by unfold cutB; rw [List.length_take, List.length_drop]; omega
  have e1 := Go.Proofs.Ytcbpeampjhegcaa.fixl.fix_unfix (cutB l 1 5)
  have e2 := Go.Proofs.Ytcbpeampjhegcaa.fixl.fix_unfix (cutB l 5 7)
  rw [h1] at e1
  rw [h2] at e2
  rw [e1, e2, Go.Proofs.Ytcbpeampjhegcaa.fixl.fix_byte]
  unfold cutB
  match l, h0, h7 with
  | a :: r, h0, h7 =>
    simp only [List.getElem?_cons_zero, Option.some.injEq] at h0
    subst h0
    have e : (a :: r).take 7 = a :: (r.take 4 ++ (r.drop 4).take 2) := by
      rw [List.take_succ_cons, show (6 : Nat) = 4 + 2 from rfl, List.take_add]
    rw [e]
    rfl
set_option maxRecDepth 100000 in
set_option maxHeartbeats 8000000 in
theorem doctext_any (l : List UInt8) (h : goodI l) (hb : l.length ≤ 4000) (q : Option Addr) (c : Nat) :
    Ct Try.prog 29 [.agg #[.int .i64 (kI l), .int .i64 (gI l), .int .i64 (zI l), .slice q (pI l).length c]] [sl 2 (.slice q (pI l).length c) ((pI l).map fII)] fun v H' => v = .tuple #[.string (str l), .int .i64 0] ∧ H' = [] := by
  obtain ⟨hk, hg, hz, hl⟩ := goodI_all h
  have I0 := docinode_any (kI l) (gI l) (zI l) q c (pI l) hk hg hz hl (goodI_parts h)
  have hlen := pI_len h
  have hat := fun i p => pI_at h (i := i) (p := p)
  obtain ⟨b0, h0⟩ : ∃ b0, l[0]? = some b0 := ⟨_, List.getElem?_eq_getElem (by omega)⟩
  have hst := doctext_start h h0
  have hk0 : kI l = (b0.toNat : Int) := by unfold kI; rw [List.getD_eq_getElem?_getD, h0]; rfl
  have hg0 : gI l = ((unfixN (cutB l 1 5) : Nat) : Int) := rfl
  have hz0 : zI l = ((unfixN (cutB l 5 7) : Nat) : Int) := rfl
  rw [hk0, hg0, hz0] at I0 ⊢
  rw [hg0] at hg
  rw [hz0] at hz
  have hb0 := b0.toNat_lt
  generalize unfixN (cutB l 1 5) = n1 at *
  generalize unfixN (cutB l 5 7) = n2 at *
  have F1 := docfix_any b0.toNat 1 (by omega) (by decide)
  have F2 := docfix_any n1 4 (by omega) (by decide)
  have F3 := docfix_any n2 2 (by omega) (by decide)
  have f1 := fixB_len b0.toNat 1
  have f2 := fixB_len n1 4
  have f3 := fixB_len n2 2
  generalize fixB b0.toNat 1 = t1 at *
  generalize fixB n1 4 = t2 at *
  generalize fixB n2 2 = t3 at *
  clear h hk0 hg0 hz0 hk
  generalize pI l = P at *
  (refine spec_enter Try.func29 Try.ntmps29 rfl rfl fun Fr => ?_; dsimp only [List.cons_append, List.nil_append, ini, Nat.reduceAdd])
  (repeat' (first | (apply run_qg 1; (focus rfl); (focus exact wt); (focus rfl); (focus (exact qg1))) | (apply run_qg 2; (focus rfl); (focus exact wt); (focus rfl); (focus (first | exact qg2 | exact qs2))) | (apply run_qg 3; (focus rfl); (focus exact wt); (focus rfl); (focus (first | exact qg3 | exact qs3))) | (apply run_qg 4; (focus rfl); (focus exact wt); (focus rfl); (focus (first | exact qg4 | exact qs4))) | (apply run_qg 6; (focus rfl); (focus exact wt); (focus rfl); (focus (first | exact qs6 | exact qg6 | exact q_max rfl rfl rfl | exact q_sliceData rfl rfl (by omega) | exact q_sliceDataN rfl rfl | exact q_unsafeStringN rfl rfl rfl | exact q_cap_slice rfl rfl))) | refine cod_seq ?_ | refine cod_region ?_ | refine run_nil ?_ | refine pst_then ?_ | (apply cod_cond_f; (focus rfl)) | refine cod_block ?_ | refine cod_skip ?_ | (apply run_osg 8; (focus rfl); (focus exact wt); (focus rfl); (focus (exact opr_box_agg rfl rfl)); (rintro _ _ ⟨b, rfl, rfl⟩)) | (apply run_osg 7; (focus rfl); (focus exact wt); (focus rfl); (focus (exact opr_call_ls (by rfl) (I0 ..) (by rfl) lpa)); (rintro _ _ ⟨rfl, rfl⟩)) | (apply cod_drawn_k; (focus kernel_rfl); (focus (simp only [List.length_cons, List.length_nil, Nat.reduceAdd]; rfl))) | (apply drnK_take 1; (focus rfl); (focus rfl); (focus exact wt); (focus (decide +kernel)); (focus exact hsq); (focus rfl); (focus (exact qg1))) | (apply drnK_take 2; (focus rfl); (focus rfl); (focus exact wt); (focus (decide +kernel)); (focus exact hsq); (focus rfl); (focus (first | exact qg2 | exact qs2))) | (apply drnK_take 3; (focus rfl); (focus rfl); (focus exact wt); (focus (decide +kernel)); (focus exact hsq); (focus rfl); (focus (first | exact qg3 | exact qs3))) | (apply drnK_take 4; (focus rfl); (focus rfl); (focus exact wt); (focus (decide +kernel)); (focus exact hsq); (focus rfl); (focus (first | exact qg4 | exact qs4))) | (apply drnK_take 11; (focus rfl); (focus rfl); (focus exact wt); (focus (decide +kernel)); (focus exact hsq); (focus rfl); (focus (exact qs11))) | (apply drnK_end; (focus (decide +kernel))) | (apply drnK_done; (focus (decide +kernel))) | (apply drnK_ones 7; (focus rfl); (focus rfl); (focus (decide +kernel)); (focus exact wt); (focus rfl); (focus (exact opr_call_ls (by rfl) (F1 ..) (by rfl) lpa)); (rintro _ _ ⟨rfl, rfl⟩; refine ⟨(by first | exact fun h => absurd h (by decide) | exact fun _ => hsq), ?_⟩)) | (apply drnK_ones 7; (focus rfl); (focus rfl); (focus (decide +kernel)); (focus exact wt); (focus rfl); (focus (exact opr_call_ls (by rfl) (F2 ..) (by rfl) lpa)); (rintro _ _ ⟨rfl, rfl⟩; refine ⟨(by first | exact fun h => absurd h (by decide) | exact fun _ => hsq), ?_⟩)) | (apply drnK_ones 7; (focus rfl); (focus rfl); (focus (decide +kernel)); (focus exact wt); (focus rfl); (focus (exact opr_call_ls (by rfl) (F3 ..) (by rfl) lpa)); (rintro _ _ ⟨rfl, rfl⟩; refine ⟨(by first | exact fun h => absurd h (by decide) | exact fun _ => hsq), ?_⟩)) | (apply drnK_skip; (focus rfl)) | (apply drnK_wrap; (focus rfl))))
  rw [hst]
  (refine cod_loop_ro (σ := Nat) (fun j => j ≤ P.length) (fun j => [(30, .int .i64 (j : Int)), (5, .string (str (l.take (7 + 2 * j))))]) (fun j => P.length - j) (0) (by exact Nat.zero_le _) (by exact fsa) (fun j hj => ?_); dsimp only [List.cons_append, List.nil_append])
  rcases get_or P j with ⟨p, hp, hlt⟩ | hge
  · obtain ⟨x, y, hx, hy, hpe⟩ := hat j p hp
    have hx8 := x.toNat_lt
    have hy8 := y.toNat_lt
    have F4 := docfix_any (x.toNat * 256 + y.toNat) 2 (by omega) (by decide)
    rw [fix_two] at F4
    have hc : (x.toNat : Int) * 256 + (y.toNat : Int) = ((x.toNat * 256 + y.toNat : Nat) : Int) := by omega
    have ht := take_two hx hy
    have htl : (l.take (7 + 2 * j)).length ≤ 4000 := by rw [List.length_take]; omega
    have hxy : ([x, y] : List UInt8).length = 2 := rfl
    have h72 : 7 + 2 * (j + 1) = 7 + 2 * j + 2 := by omega
    generalize l.take (7 + 2 * j) = tk at *
    subst hpe
    (repeat' (first | (apply run_qg 1; (focus rfl); (focus exact wt); (focus rfl); (focus (exact qg1))) | (apply run_qg 2; (focus rfl); (focus exact wt); (focus rfl); (focus (first | exact qg2 | exact qs2))) | (apply run_qg 3; (focus rfl); (focus exact wt); (focus rfl); (focus (first | exact qg3 | exact qs3))) | (apply run_qg 4; (focus rfl); (focus exact wt); (focus rfl); (focus (first | exact qg4 | exact qs4))) | (apply run_qg 11; (focus rfl); (focus exact wt); (focus rfl); (focus (exact qs11))) | refine cod_seq ?_ | refine cod_region ?_ | refine run_nil ?_ | refine pst_then ?_ | (apply cod_cond_t; (focus rfl)) | refine cod_block ?_ | refine cod_skip ?_ | (apply run_osg 8; (focus rfl); (focus exact wt); (focus rfl); (focus (exact opr_new rfl)); (rintro _ _ ⟨b, rfl, rfl⟩)) | (apply run_ong 9; (focus rfl); (focus exact wt); (focus (exact opr_store_box_agg rfl rfl rfl (by exact pka) rfl rfl rfl (by exact spla))); (rintro _ _ ⟨rfl, rfl⟩))))
    dsimp only
    rw [hc]
    (repeat' (first | (apply run_qg 1; (focus rfl); (focus exact wt); (focus rfl); (focus (exact qg1))) | (apply run_qg 4; (focus rfl); (focus exact wt); (focus rfl); (focus (first | exact qg4 | exact qs4))) | refine cod_region ?_ | refine run_nil ?_ | refine pst_then ?_ | refine pst_block ?_ | (apply run_osg 7; (focus rfl); (focus exact wt); (focus rfl); (focus (exact opr_call_ls (by rfl) (F4 ..) (by rfl) lpa)); (rintro _ _ ⟨rfl, rfl⟩))))
    rw [← ht, ← h72]
    refine pst_again (j + 1) ?_ (FSub.of (by (try dsimp only); exact fsa)) (by (try dsimp only); exact hsa) ?_
    · omega
    · omega
  · have hjl : j = P.length := by omega
    subst hjl
    rw [← hlen, List.take_length]
    (repeat' (first | (apply run_qg 1; (focus rfl); (focus exact wt); (focus rfl); (focus (exact qg1))) | (apply run_qg 4; (focus rfl); (focus exact wt); (focus rfl); (focus (first | exact qg4 | exact qs4))) | refine cod_seq ?_ | refine cod_region ?_ | refine run_nil ?_ | refine pst_then ?_ | (apply cod_cond_f; (focus rfl)) | refine cod_exit ?_ | refine cod_ret ?_ | refine pst_block_here ?_ | refine pst_then_exit ?_))
    exact pst_fin rfl (by exact resa) _ (⟨rfl, rfl⟩) (by exact hsa)
set_option maxRecDepth 100000 in
set_option maxHeartbeats 8000000 in
theorem docread_any (l : List UInt8) (h : goodI l) (hb : l.length ≤ 4000) :
    Ct Try.prog 23 [.string (str l)] [] fun v H' => ∃ q c, v = .tuple #[.agg #[.int .i64 (kI l), .int .i64 (gI l), .int .i64 (zI l), .slice q (pI l).length c], .int .i64 0] ∧ H' = [own (.slice q (pI l).length c) 38 2 (pI l).length (flat fII (pI l))] := by
  have T0 := fun q c => doctext_any l h hb q c
  have h2 : l.length % 2 = 1 := h.2.1
  have h7 := h.1
  obtain ⟨b0, hb0⟩ : ∃ b0, l[0]? = some b0 := ⟨_, List.getElem?_eq_getElem (by omega)⟩
  have hk : kI l = (b0.toNat : Int) := by unfold kI; rw [List.getD_eq_getElem?_getD, hb0]; rfl
  have U1 := docunfix_any (cutB l 1 5) (by unfold cutB; rw [List.length_take]; omega)
  have U2 := docunfix_any (cutB l 5 7) (by unfold cutB; rw [List.length_take]; omega)
  obtain ⟨_, hgb, hzb, _⟩ := goodI_all h
  have hg : gI l = ((unfixN (cutB l 1 5) : Nat) : Int) := rfl
  have hz : zI l = ((unfixN (cutB l 5 7) : Nat) : Int) := rfl
  have hbt := b0.toNat_lt
  have hs1 : (l.drop 1).take (5 - 1) = cutB l 1 5 := rfl
  have hs2 : (l.drop 5).take (7 - 5) = cutB l 5 7 := rfl
  have hpl : (pI l).length ≤ 4000000 := prs_len 4000000 _ (by rw [List.length_drop]; omega)
  have hll : (l == l) = true := by simp
  rw [hk, hg, hz] at T0 ⊢
  rw [hg] at hgb
  rw [hz] at hzb
  clear h hk hg hz
  generalize unfixN (cutB l 1 5) = n1 at *
  generalize unfixN (cutB l 5 7) = n2 at *
  (refine spec_enter Try.func23 Try.ntmps23 rfl rfl fun Fr => ?_; dsimp only [List.cons_append, List.nil_append, ini, Nat.reduceAdd])
  (repeat' (first | (apply run_qg 1; (focus rfl); (focus exact wt); (focus rfl); (focus (exact qg1))) | (apply run_qg 3; (focus rfl); (focus exact wt); (focus rfl); (focus (first | exact qg3 | exact qs3))) | (apply run_qg 4; (focus rfl); (focus exact wt); (focus rfl); (focus (first | exact qg4 | exact qs4))) | (apply run_qg 5; (focus rfl); (focus exact wt); (focus rfl); (focus (exact qg5))) | (apply run_qg 6; (focus rfl); (focus exact wt); (focus rfl); (focus (first | exact qs6 | exact qg6 | exact q_max rfl rfl rfl | exact q_sliceData rfl rfl (by omega) | exact q_sliceDataN rfl rfl | exact q_unsafeStringN rfl rfl rfl | exact q_cap_slice rfl rfl))) | (apply run_qg 11; (focus rfl); (focus exact wt); (focus rfl); (focus (exact qs11))) | (apply run_qg 12; (focus rfl); (focus exact wt); (focus rfl); (focus (first | exact qs12 | exact q_cutp rfl rfl rfl rfl (by omega) (by omega) | exact q_slice_cap rfl rfl rfl rfl (by omega)))) | refine cod_seq ?_ | refine cod_region ?_ | refine run_nil ?_ | refine pst_then ?_ | (apply cod_cond_f; (focus rfl)) | refine cod_block ?_ | refine cod_skip ?_ | (apply run_osg 8; (focus rfl); (focus exact wt); (focus rfl); (focus (exact opr_new rfl)); (rintro _ _ ⟨b, rfl, rfl⟩)) | (apply run_ong 9; (focus rfl); (focus exact wt); (focus (exact opr_store_box_agg rfl rfl rfl (by exact pka) rfl rfl rfl (by exact spla))); (rintro _ _ ⟨rfl, rfl⟩)) | (apply run_osg 7; (focus rfl); (focus exact wt); (focus rfl); (focus (exact opr_call_ls (by rfl) (U1 ..) (by rfl) lpa)); (rintro _ _ ⟨rfl, rfl⟩)) | (apply run_osg 7; (focus rfl); (focus exact wt); (focus rfl); (focus (exact opr_call_ls (by rfl) (U2 ..) (by rfl) lpa)); (rintro _ _ ⟨rfl, rfl⟩))))
  rename_i br
  refine cod_heap (heap_nil _ 38 2) ?_
  (refine cod_loop_rw (σ := Nat × Option Addr × Nat × List (Int × Int)) (fun x => (7 + 2 * x.1 ≤ l.length ∧ x.2.2.2.length = x.1) ∧ x.2.2.2 ++ prs (l.drop (7 + 2 * x.1)) = pI l) (fun x => [(9, .int .i64 ((7 + 2 * x.1 : Nat) : Int))]) (fun x => [own (.slice x.2.1 x.2.2.2.length x.2.2.1) 38 2 x.2.2.2.length (flat fII x.2.2.2), box b [.int .i64 (b0.toNat : Int), .int .i64 (n1 : Int), .int .i64 (n2 : Int), .slice x.2.1 x.2.2.2.length x.2.2.1] 47]) _ (fun x => l.length - 7 - 2 * x.1) ((0, none, 0, [])) (by exact ⟨⟨by show 7 + 2 * 0 ≤ _; omega, rfl⟩, rfl⟩) (by exact fsa) (by (first | exact HSub.of_picks_rest (by exact pca))) (fun ⟨j, q3, c3, ps⟩ ⟨⟨hj, hjl⟩, hps⟩ => ?_); dsimp only [List.cons_append, List.nil_append])
  dsimp only at hj hjl hps ⊢
  rcases Nat.lt_or_ge (7 + 2 * j) l.length with hlt | hge
  · obtain ⟨x, hx⟩ : ∃ x, l[7 + 2 * j]? = some x := ⟨_, List.getElem?_eq_getElem hlt⟩
    obtain ⟨y, hy⟩ : ∃ y, l[7 + 2 * j + 1]? = some y := ⟨_, List.getElem?_eq_getElem (by omega)⟩
    rw [prs_next hx hy] at hps
    have hstep : ((7 + 2 * j : Nat) : Int) + 2 = ((7 + 2 * (j + 1) : Nat) : Int) := by omega
    have hxt := x.toNat_lt
    have hyt := y.toNat_lt
    have hlt1 : 7 + 2 * j + 1 < l.length := by omega
    generalize hi : 7 + 2 * j = i at *
    (repeat' (first | (apply run_qg 1; (focus rfl); (focus exact wt); (focus rfl); (focus (exact qg1))) | (apply run_qg 4; (focus rfl); (focus exact wt); (focus rfl); (focus (first | exact qg4 | exact qs4))) | (apply run_qg 6; (focus rfl); (focus exact wt); (focus rfl); (focus (first | exact qs6 | exact qg6 | exact q_max rfl rfl rfl | exact q_sliceData rfl rfl (by omega) | exact q_sliceDataN rfl rfl | exact q_unsafeStringN rfl rfl rfl | exact q_cap_slice rfl rfl))) | refine cod_seq ?_ | refine cod_region ?_ | refine run_nil ?_ | refine pst_then ?_ | (apply cod_cond_t; (focus rfl)) | refine cod_block ?_ | refine cod_skip ?_))
    (refine cod_drawn_ks (Hq := [_]) [1] [15] rfl (by kernel_rfl) (by simp only [List.length_cons, List.length_nil, Nat.reduceAdd]; rfl) ?_)
    (repeat' (first | (apply drnK_take 1; (focus rfl); (focus rfl); (focus exact wt); (focus (decide +kernel)); (focus exact hsq); (focus rfl); (focus (exact qg1))) | (apply drnK_take 2; (focus rfl); (focus rfl); (focus exact wt); (focus (decide +kernel)); (focus exact hsq); (focus rfl); (focus (first | exact qg2 | exact qs2))) | (apply drnK_take 3; (focus rfl); (focus rfl); (focus exact wt); (focus (decide +kernel)); (focus exact hsq); (focus rfl); (focus (first | exact qg3 | exact qs3))) | (apply drnK_take 4; (focus rfl); (focus rfl); (focus exact wt); (focus (decide +kernel)); (focus exact hsq); (focus rfl); (focus (first | exact qg4 | exact qs4))) | (apply drnK_take 5; (focus rfl); (focus rfl); (focus exact wt); (focus (decide +kernel)); (focus exact hsq); (focus rfl); (focus (exact qg5))) | (apply drnK_take 11; (focus rfl); (focus rfl); (focus exact wt); (focus (decide +kernel)); (focus exact hsq); (focus rfl); (focus (exact qs11))) | (apply drnK_done; (focus (decide +kernel))) | (apply drnK_skip; (focus rfl)) | (apply drnK_wrap; (focus rfl))))
    (refine drnK_at 12 ?_; (first | refine drnK_ones _ (by rfl) (by rfl) (by kernel_rfl) wt (by rfl) (by exact opr_buildSlice rfl rfl rfl (by exact blda) rfl rfl (by decide) rfl) ?_ | refine drnK_onen _ (by rfl) (by rfl) (by kernel_rfl) wt (by exact opr_buildSlice rfl rfl rfl (by exact blda) rfl rfl (by decide) rfl) ?_); rintro _ _ ⟨q9, rfl, rfl⟩; refine ⟨(by first | exact fun h => absurd h (by decide) | exact fun _ => hsq), ?_⟩; (try dsimp only [List.cons_append, List.nil_append]))
    (refine drnK_at 13 ?_; (first | refine drnK_ones _ (by rfl) (by rfl) (by kernel_rfl) wt (by rfl) (by exact (by first | exact opr_append_lit0 (fII) [((x.toNat : Int), (y.toNat : Int))] rfl rfl rfl (by exact pka) (by rfl) (by rfl) (by intro _; rfl) (by (first | exact one_fS | exact one_fI | exact one_fB | exact one_fP | exact one_fIIS | exact one_fIIIS | exact one_fII | exact one_fSI | exact one_fIIU | exact one_fY | exact one_fBl | exact one_fT | exact one_fE | assumption)) rfl (by simp only [List.length_cons, List.length_nil]; omega) (by (unfold maxLen); simp only [List.length_cons, List.length_nil]; omega) | exact opr_append_lit (fII) [((x.toNat : Int), (y.toNat : Int))] rfl rfl rfl (by exact pka) (by exact pka) (by rfl) (by rfl) (by first | rfl | omega) (by intro _; rfl) (by (first | exact one_fS | exact one_fI | exact one_fB | exact one_fP | exact one_fIIS | exact one_fIIIS | exact one_fII | exact one_fSI | exact one_fIIU | exact one_fY | exact one_fBl | exact one_fT | exact one_fE | assumption)) rfl (by simp only [List.length_cons, List.length_nil]; omega) (by (unfold maxLen); simp only [List.length_cons, List.length_nil]; omega))) ?_ | refine drnK_onen _ (by rfl) (by rfl) (by kernel_rfl) wt (by exact (by first | exact opr_append_lit0 (fII) [((x.toNat : Int), (y.toNat : Int))] rfl rfl rfl (by exact pka) (by rfl) (by rfl) (by intro _; rfl) (by (first | exact one_fS | exact one_fI | exact one_fB | exact one_fP | exact one_fIIS | exact one_fIIIS | exact one_fII | exact one_fSI | exact one_fIIU | exact one_fY | exact one_fBl | exact one_fT | exact one_fE | assumption)) rfl (by simp only [List.length_cons, List.length_nil]; omega) (by (unfold maxLen); simp only [List.length_cons, List.length_nil]; omega) | exact opr_append_lit (fII) [((x.toNat : Int), (y.toNat : Int))] rfl rfl rfl (by exact pka) (by exact pka) (by rfl) (by rfl) (by first | rfl | omega) (by intro _; rfl) (by (first | exact one_fS | exact one_fI | exact one_fB | exact one_fP | exact one_fIIS | exact one_fIIIS | exact one_fII | exact one_fSI | exact one_fIIU | exact one_fY | exact one_fBl | exact one_fT | exact one_fE | assumption)) rfl (by simp only [List.length_cons, List.length_nil]; omega) (by (unfold maxLen); simp only [List.length_cons, List.length_nil]; omega))) ?_); rintro _ _ ⟨q4, c4, rfl, rfl⟩; refine ⟨(by first | exact fun h => absurd h (by decide) | exact fun _ => hsq), ?_⟩; (try dsimp only [List.cons_append, List.nil_append]))
    (repeat' (first | (apply run_qg 1; (focus rfl); (focus exact wt); (focus rfl); (focus (exact qg1))) | (apply run_qg 4; (focus rfl); (focus exact wt); (focus rfl); (focus (first | exact qg4 | exact qs4))) | refine cod_region ?_ | refine run_nil ?_ | refine pst_then ?_ | refine pst_block ?_ | (apply drnK_take 3; (focus rfl); (focus rfl); (focus exact wt); (focus (decide +kernel)); (focus exact hsq); (focus rfl); (focus (first | exact qg3 | exact qs3))) | (apply drnK_onen 9; (focus rfl); (focus rfl); (focus (decide +kernel)); (focus exact wt); (focus (exact opr_store_box_one rfl rfl rfl rfl (by exact pka) rfl (by exact seta))); (rintro _ _ ⟨rfl, rfl⟩; refine ⟨(by first | exact fun h => absurd h (by decide) | exact fun _ => hsq), ?_⟩)) | (apply drnK_end; (focus (decide +kernel)))))
    rw [hstep]
    refine pst_again ((j + 1, q4, c4, ps ++ [((x.toNat : Int), (y.toNat : Int))])) ?_ (FSub.of (by (try dsimp only); exact fsa)) (by (try dsimp only); exact hsa) ?_
    · refine ⟨⟨by dsimp only; omega, by dsimp only; rw [List.length_append, List.length_singleton, hjl]⟩, ?_⟩
      dsimp only
      rw [List.append_assoc, show 7 + 2 * (j + 1) = i + 2 by omega]
      exact hps
    · dsimp only; omega
  · have hje : 7 + 2 * j = l.length := by omega
    rw [prs_end hge, List.append_nil] at hps
    subst hps
    rw [hje]
    (repeat' (first | (apply run_qg 1; (focus rfl); (focus exact wt); (focus rfl); (focus (exact qg1))) | (apply run_qg 2; (focus rfl); (focus exact wt); (focus rfl); (focus (first | exact qg2 | exact qs2))) | (apply run_qg 4; (focus rfl); (focus exact wt); (focus rfl); (focus (first | exact qg4 | exact qs4))) | (apply run_qg 6; (focus rfl); (focus exact wt); (focus rfl); (focus (first | exact qs6 | exact qg6 | exact q_max rfl rfl rfl | exact q_sliceData rfl rfl (by omega) | exact q_sliceDataN rfl rfl | exact q_unsafeStringN rfl rfl rfl | exact q_cap_slice rfl rfl))) | refine cod_seq ?_ | refine cod_region ?_ | refine run_nil ?_ | refine pst_then ?_ | (apply cod_cond_f; (focus rfl)) | refine cod_exit ?_ | refine cod_ret ?_ | refine cod_skip ?_ | refine pst_block_here ?_ | refine pst_then_exit ?_ | (apply run_ong 9; (focus rfl); (focus exact wt); (focus (exact opr_store_box_agg rfl rfl rfl (by exact pka) rfl rfl rfl (by exact spla))); (rintro _ _ ⟨rfl, rfl⟩)) | (apply run_osg 7; (focus rfl); (focus exact wt); (focus rfl); (focus (exact opr_call_ls (by rfl) (T0 ..) (by rfl) lpa)); (rintro _ _ ⟨rfl, rfl⟩))))
    exact pst_fin rfl (by exact resa) _ (⟨q3, c3, rfl, rfl⟩) (by exact hsa)
end Go.Proofs.Ytcbpeampjhegcaa.inode
