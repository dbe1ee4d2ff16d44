/-
  scan.Cell, use.Blob: what they answer, and the walks.
-/
import Derived.Test.YtcaefeooneomnaaSealLaw
import Derived.Test.YtcaefeooneomnaaBlobLaw
import Derived.Test.YtcaefeooneomnaaDiskNow
namespace Go.Proofs.Ytcaefeooneomnaa.use
open Go.RowKit kit sl Go.Proofs.Ytcaefeooneomnaa.seal Go.Proofs.Ytcaefeooneomnaa.disk Go.Proofs.Ytcaefeooneomnaa.blob
set_option linter.unusedVariables false
abbrev Cells := List ByteArray
abbrev Waits := List (Int × ByteArray)
theorem now_bd {cs : Cells} {ps : Waits} (h : disk.Good cs ps) (k : Int) : (nowD cs ps k).size ≤ 1024 := by
  unfold nowD
  cases hf : ps.reverse.find? (fun p => p.1 == k) with
  | some p =>
    have hm := List.mem_of_find?_eq_some hf
    have := h.puts p (List.mem_reverse.1 hm)
    exact (put_zero.1 this).2.2
  | none =>
    show (cs.getD k.toNat ⟨#[]⟩).size ≤ 1024
    rw [List.getD_eq_getElem?_getD]
    cases hg : cs[k.toNat]? with
    | some s => exact h.cells s (List.mem_of_getElem? hg)
    | none => exact Nat.zero_le _
def nowL (cs : Cells) (ps : Waits) (k : Nat) : List UInt8 := (nowD cs ps k).data.toList
theorem now_str (cs : Cells) (ps : Waits) (k : Nat) : nowD cs ps k = str (nowL cs ps k) := rfl
/-- a right cell of the log: its number, its blobs, whether it is a last one -/
def logF (cs : Cells) (ps : Waits) (k : Nat) : Option (Int × List Blob × Bool) :=
  if openE (nowL cs ps k) = 0 ∧ openK (nowL cs ps k) = 1 then (readO (openB (nowL cs ps k))).map fun zs => (openN (nowL cs ps k), zs, ((openB (nowL cs ps k)).getD 0 0).toNat == 1) else none
def CellR (cs : Cells) (ps : Waits) (k : Nat) (v : Value) (H' : List Ent) : Prop :=
  (∃ n zs b q c, logF cs ps k = some (n, zs, b) ∧ v = .tuple #[.int .i64 n, .slice q zs.length c, .bool b, .bool true] ∧ H' = [own (.slice q zs.length c) 28 4 zs.length (flat fBl zs)]) ∨
  (logF cs ps k = none ∧ ∃ n, v = .tuple #[.int .i64 n, .slice none 0 0, .bool false, .bool false] ∧ H' = [])
instance {cs : Cells} {ps : Waits} {k : Nat} : Xcl (CellR cs ps k) := by unfold CellR; infer_instance
theorem ct_mono {P : Program} {f : FuncId} {args : List Value} {H : List Ent} {R R' : Value → List Ent → Prop} (h : Ct P f args H R) (k : ∀ v H', R v H' → R' v H') : Ct P f args H R' := ⟨fun Fr w hw => (h.go Fr w hw).mono fun e w' ⟨v, H', h1, h2, h3⟩ => ⟨v, H', h1, k v H' h2, h3⟩⟩
theorem read_some {L : List UInt8} {zs : List Blob} (hL : L.length ≤ 1000000000000000) (h : readO L = some zs) : Ct Try.prog 57 [.string (str L)] [] fun v H' => ∃ q c, v = .tuple #[.slice q zs.length c, .bool ((L.getD 0 0).toNat == 1), .int .i64 0] ∧ H' = [own (.slice q zs.length c) 28 4 zs.length (flat fBl zs)] :=
  ct_mono (read_any L hL) fun v H' h2 => by
    rcases h2 with ⟨zs', q, c, e, h3, h4⟩ | ⟨e, _⟩
    · rw [h] at e; cases e; exact ⟨q, c, h3, h4⟩
    · rw [h] at e; cases e
theorem read_none {L : List UInt8} (hL : L.length ≤ 1000000000000000) (h : readO L = none) : Ct Try.prog 57 [.string (str L)] [] fun v H' => v = .tuple #[.slice none 0 0, .bool false, .int .i64 4] ∧ H' = [] :=
  ct_mono (read_any L hL) fun v H' h2 => by
    rcases h2 with ⟨zs', q, c, e, _⟩ | ⟨_, h3⟩
    · rw [h] at e; cases e
    · exact h3
attribute [local irreducible] box own sl old bptr eptr Qt Opr Run Cod Pst Drn
set_option maxRecDepth 100000 in
set_option maxHeartbeats 8000000 in
theorem cell_any (a w : Option Addr) (ca cw : Nat) (cs : Cells) (ps : Waits) (k : Nat) (hk : k < cs.length) (hg : disk.Good cs ps) :
    Ct Try.prog 33 [.agg #[.slice a cs.length ca, .slice w ps.length cw], .int .i64 (k : Int)] [sl 1 (.slice a cs.length ca) (cs.map fS), sl 2 (.slice w ps.length cw) (ps.map fP)] (CellR cs ps k) := by
  have hw := hg.wait
  have N0 := now_any a w ca cw cs ps k hk (by omega)
  have hb := now_bd hg (k : Int)
  rw [now_str] at N0 hb
  rw [str_size] at hb
  obtain ⟨l, hl⟩ : ∃ l, nowL cs ps k = l := ⟨_, rfl⟩
  rw [hl] at N0 hb
  have O0 := open_any l (by omega)
  have hob : (openB l).length ≤ 1024 := by unfold openB cutB; rw [List.length_take, List.length_drop]; omega
  by_cases hE : openE l = 0
  · rw [openV_ok hE] at O0
    by_cases hK : openK l = 1
    · cases hr : readO (openB l) with
      | some zs =>
        have R0 := read_some (by omega) hr
        have hlog : logF cs ps k = some (openN l, zs, ((openB l).getD 0 0).toNat == 1) := by unfold logF; rw [hl, if_pos ⟨hE, hK⟩, hr]; rfl
        rw [hK] at O0
        unfold CellR
        rw [hlog]
        generalize (((openB l).getD 0 0).toNat == 1) = bb at *
        generalize openN l = nn at *
        generalize openB l = bl at *
        clear hE hK
        (refine spec_enter Try.func33 Try.ntmps33 rfl rfl fun Fr => ?_; dsimp only [List.cons_append, List.nil_append, ini, Nat.reduceAdd])
        (repeat' (first | (apply run_qg 1; (focus rfl); (focus exact wt); (focus rfl); (focus (exact qg1))) | (apply run_qg 2; (focus rfl); (focus exact wt); (focus rfl); (focus (first | exact qg2 | exact qs2))) | (apply run_qg 4; (focus rfl); (focus exact wt); (focus rfl); (focus (first | exact qg4 | exact qs4))) | refine cod_seq ?_ | refine cod_region ?_ | refine run_nil ?_ | refine pst_then ?_ | (apply cod_cond_f; (focus rfl)) | refine cod_skip ?_ | (apply run_osg 8; (focus rfl); (focus exact wt); (focus rfl); (focus (exact opr_box_agg rfl rfl)); (rintro _ _ ⟨b, rfl, rfl⟩)) | (apply run_osg 7; (focus rfl); (focus exact wt); (focus rfl); (focus (exact opr_call_ls (by rfl) (N0 ..) (by rfl) lpa)); (rintro _ _ ⟨rfl, rfl⟩)) | (apply run_osg 7; (focus rfl); (focus exact wt); (focus rfl); (focus (exact opr_call_ls (by rfl) (O0 ..) (by rfl) lpa)); (rintro _ _ ⟨rfl, rfl⟩))))
        (refine run_os wt rfl (opr_call_l rfl (R0) rfl (by exact lpa)) ?_; rintro _ _ ⟨_, ⟨q, c, rfl, rfl⟩, rfl⟩; dsimp only [List.cons_append, List.nil_append])
        (repeat' (first | (apply run_qg 1; (focus rfl); (focus exact wt); (focus rfl); (focus (exact qg1))) | (apply run_qg 4; (focus rfl); (focus exact wt); (focus rfl); (focus (first | exact qg4 | exact qs4))) | refine cod_seq ?_ | refine cod_region ?_ | refine run_nil ?_ | refine pst_then ?_ | refine cod_ret ?_))
        exact pst_fin rfl (by exact resa) _ (.inl ⟨_, _, _, q, c, rfl, rfl, rfl⟩) (by exact hsa)
      | none =>
        have R0 := read_none (by omega) hr
        have hlog : logF cs ps k = none := by unfold logF; rw [hl, if_pos ⟨hE, hK⟩, hr]; rfl
        rw [hK] at O0
        unfold CellR
        rw [hlog]
        generalize openN l = nn at *
        generalize openB l = bl at *
        clear hE hK
        (refine spec_enter Try.func33 Try.ntmps33 rfl rfl fun Fr => ?_; dsimp only [List.cons_append, List.nil_append, ini, Nat.reduceAdd])
        (repeat' (first | (apply run_qg 1; (focus rfl); (focus exact wt); (focus rfl); (focus (exact qg1))) | (apply run_qg 2; (focus rfl); (focus exact wt); (focus rfl); (focus (first | exact qg2 | exact qs2))) | (apply run_qg 4; (focus rfl); (focus exact wt); (focus rfl); (focus (first | exact qg4 | exact qs4))) | refine cod_seq ?_ | refine cod_region ?_ | refine run_nil ?_ | refine pst_then ?_ | (apply cod_cond_f; (focus rfl)) | refine cod_ret ?_ | refine cod_skip ?_ | (apply run_osg 8; (focus rfl); (focus exact wt); (focus rfl); (focus (exact opr_box_agg rfl rfl)); (rintro _ _ ⟨b, rfl, rfl⟩)) | (apply run_osg 7; (focus rfl); (focus exact wt); (focus rfl); (focus (exact opr_call_ls (by rfl) (N0 ..) (by rfl) lpa)); (rintro _ _ ⟨rfl, rfl⟩)) | (apply run_osg 7; (focus rfl); (focus exact wt); (focus rfl); (focus (exact opr_call_ls (by rfl) (O0 ..) (by rfl) lpa)); (rintro _ _ ⟨rfl, rfl⟩)) | (apply run_osg 7; (focus rfl); (focus exact wt); (focus rfl); (focus (exact opr_call_ls (by rfl) (R0 ..) (by rfl) lpa)); (rintro _ _ ⟨rfl, rfl⟩))))
        exact pst_fin rfl (by exact resa) _ (.inr ⟨rfl, _, rfl, rfl⟩) (by exact hsa)
    · have hlog : logF cs ps k = none := by unfold logF; rw [hl, if_neg (fun h => hK h.2)]
      unfold CellR
      rw [hlog]
      generalize openN l = nn at *
      generalize openB l = bl at *
      generalize openK l = kk at *
      clear hE
      (refine spec_enter Try.func33 Try.ntmps33 rfl rfl fun Fr => ?_; dsimp only [List.cons_append, List.nil_append, ini, Nat.reduceAdd])
      (repeat' (first | (apply run_qg 1; (focus rfl); (focus exact wt); (focus rfl); (focus (exact qg1))) | (apply run_qg 2; (focus rfl); (focus exact wt); (focus rfl); (focus (first | exact qg2 | exact qs2))) | (apply run_qg 4; (focus rfl); (focus exact wt); (focus rfl); (focus (first | exact qg4 | exact qs4))) | refine cod_seq ?_ | refine cod_region ?_ | refine run_nil ?_ | refine pst_then ?_ | (apply cod_cond_t; (focus rfl)) | refine cod_ret ?_ | refine pst_then_ret ?_ | (apply run_osg 8; (focus rfl); (focus exact wt); (focus rfl); (focus (exact opr_box_agg rfl rfl)); (rintro _ _ ⟨b, rfl, rfl⟩)) | (apply run_osg 7; (focus rfl); (focus exact wt); (focus rfl); (focus (exact opr_call_ls (by rfl) (N0 ..) (by rfl) lpa)); (rintro _ _ ⟨rfl, rfl⟩)) | (apply run_osg 7; (focus rfl); (focus exact wt); (focus rfl); (focus (exact opr_call_ls (by rfl) (O0 ..) (by rfl) lpa)); (rintro _ _ ⟨rfl, rfl⟩))))
      exact pst_fin rfl (by exact resa) _ (.inr ⟨rfl, _, rfl, rfl⟩) (by exact hsa)
  · rw [openV_no hE] at O0
    have hlog : logF cs ps k = none := by unfold logF; rw [hl, if_neg (fun h => hE h.1)]
    unfold CellR
    rw [hlog]
    generalize openE l = ee at *
    (refine spec_enter Try.func33 Try.ntmps33 rfl rfl fun Fr => ?_; dsimp only [List.cons_append, List.nil_append, ini, Nat.reduceAdd])
    (repeat' (first | (apply run_qg 1; (focus rfl); (focus exact wt); (focus rfl); (focus (exact qg1))) | (apply run_qg 2; (focus rfl); (focus exact wt); (focus rfl); (focus (first | exact qg2 | exact qs2))) | (apply run_qg 4; (focus rfl); (focus exact wt); (focus rfl); (focus (first | exact qg4 | exact qs4))) | refine cod_seq ?_ | refine cod_region ?_ | refine run_nil ?_ | refine pst_then ?_ | (apply cod_cond_t; (focus rfl)) | refine cod_ret ?_ | refine pst_then_ret ?_ | (apply run_osg 8; (focus rfl); (focus exact wt); (focus rfl); (focus (exact opr_box_agg rfl rfl)); (rintro _ _ ⟨b, rfl, rfl⟩)) | (apply run_offs; (focus rfl); (focus rfl); (focus rfl)) | (apply run_osg 7; (focus rfl); (focus exact wt); (focus rfl); (focus (exact opr_call_ls (by rfl) (N0 ..) (by rfl) lpa)); (rintro _ _ ⟨rfl, rfl⟩)) | (apply run_osg 7; (focus rfl); (focus exact wt); (focus rfl); (focus (exact opr_call_ls (by rfl) (O0 ..) (by rfl) lpa)); (rintro _ _ ⟨rfl, rfl⟩))))
    exact pst_fin rfl (by exact resa) _ (.inr ⟨rfl, _, rfl, rfl⟩) (by exact hsa)
theorem log_right {cs : Cells} {ps : Waits} {k : Nat} {n : Int} {zs : List Blob} {b : Bool} (h : logF cs ps k = some (n, zs, b)) : zs.length ≤ 40 ∧ ∀ p ∈ zs, blobE p = 0 := by
  unfold logF at h
  split at h
  · cases hr : readO (openB (nowL cs ps k)) with
    | none => rw [hr] at h; cases h
    | some y =>
      rw [hr] at h
      simp only [Option.map_some, Option.some.injEq, Prod.mk.injEq] at h
      obtain ⟨_, rfl, _⟩ := h
      have hw := writeE_zero (write_read hr).1
      exact ⟨hw.1, hw.2.1⟩
  · cases h
def zBl : Blob := (0, 0, 0, [])
/-- the blob of a place -/
def blobF (cs : Cells) (ps : Waits) (p : Int × Int) : Blob × Int :=
  if p.1 < 2 ∨ (cs.length : Int) ≤ p.1 ∨ p.2 < 0 then (zBl, 12) else
  match logF cs ps p.1.toNat with
  | none => (zBl, 18)
  | some r => if (r.2.1.length : Int) ≤ p.2 then (zBl, 12) else (r.2.1.getD p.2.toNat zBl, 0)
theorem cell_some {a w : Option Addr} {ca cw : Nat} {cs : Cells} {ps : Waits} {k : Nat} {n : Int} {zs : List Blob} {b : Bool} (hk : k < cs.length) (hg : disk.Good cs ps) (h : logF cs ps k = some (n, zs, b)) :
    Ct Try.prog 33 [.agg #[.slice a cs.length ca, .slice w ps.length cw], .int .i64 (k : Int)] [sl 1 (.slice a cs.length ca) (cs.map fS), sl 2 (.slice w ps.length cw) (ps.map fP)] fun v H' => ∃ q c, v = .tuple #[.int .i64 n, .slice q zs.length c, .bool b, .bool true] ∧ H' = [own (.slice q zs.length c) 28 4 zs.length (flat fBl zs)] :=
  ct_mono (cell_any a w ca cw cs ps k hk hg) fun v H' h2 => by
    rcases h2 with ⟨n', zs', b', q, c, e, h3, h4⟩ | ⟨e, _⟩
    · rw [h] at e; cases e; exact ⟨q, c, h3, h4⟩
    · rw [h] at e; cases e
theorem cell_none {a w : Option Addr} {ca cw : Nat} {cs : Cells} {ps : Waits} {k : Nat} (hk : k < cs.length) (hg : disk.Good cs ps) (h : logF cs ps k = none) :
    Ct Try.prog 33 [.agg #[.slice a cs.length ca, .slice w ps.length cw], .int .i64 (k : Int)] [sl 1 (.slice a cs.length ca) (cs.map fS), sl 2 (.slice w ps.length cw) (ps.map fP)] fun v H' => ∃ n, v = .tuple #[.int .i64 n, .slice none 0 0, .bool false, .bool false] ∧ H' = [] :=
  ct_mono (cell_any a w ca cw cs ps k hk hg) fun v H' h2 => by
    rcases h2 with ⟨n', zs', b', q, c, e, _⟩ | ⟨_, n, h3, h4⟩
    · rw [h] at e; cases e
    · exact ⟨n, h3, h4⟩
set_option maxRecDepth 100000 in
set_option maxHeartbeats 8000000 in
theorem blob_any (a w : Option Addr) (ca cw : Nat) (cs : Cells) (ps : Waits) (p : Int × Int) (hg : disk.Good cs ps) :
    Ct Try.prog 41 [.agg #[.slice a cs.length ca, .slice w ps.length cw], .agg #[.int .i64 p.1, .int .i64 p.2]] [sl 1 (.slice a cs.length ca) (cs.map fS), sl 2 (.slice w ps.length cw) (ps.map fP)] fun v H' => v = .tuple #[.agg #[.int .i64 (blobF cs ps p).1.1, .int .i64 (blobF cs ps p).1.2.1, .int .i64 (blobF cs ps p).1.2.2.1, .string (str (blobF cs ps p).1.2.2.2)], .int .i64 (blobF cs ps p).2] ∧ H' = [] := by
  obtain ⟨x, y⟩ := p
  have hn1 := hg.n1
  by_cases h1 : x < 2 ∨ (cs.length : Int) ≤ x ∨ y < 0
  · have e : blobF cs ps (x, y) = (zBl, 12) := by unfold blobF; rw [if_pos h1]
    rw [e]
    unfold zBl
    dsimp only
    (refine spec_enter Try.func41 Try.ntmps41 rfl rfl fun Fr => ?_; dsimp only [List.cons_append, List.nil_append, ini, Nat.reduceAdd])
    (repeat' (first | (apply run_qg 1; (focus rfl); (focus exact wt); (focus rfl); (focus (exact qg1))) | (apply run_qg 2; (focus rfl); (focus exact wt); (focus rfl); (focus (first | exact qg2 | exact qs2))) | (apply run_qg 3; (focus rfl); (focus exact wt); (focus rfl); (focus (first | exact qg3 | exact qs3))) | (apply run_qg 4; (focus rfl); (focus exact wt); (focus rfl); (focus (first | exact qg4 | exact qs4))) | (apply run_qg 5; (focus rfl); (focus exact wt); (focus rfl); (focus (exact qg5))) | (apply run_qg 6; (focus rfl); (focus exact wt); (focus rfl); (focus (first | exact qs6 | exact qg6 | exact q_max rfl rfl rfl | exact q_sliceData rfl rfl (by omega) | exact q_sliceDataN rfl rfl | exact q_unsafeStringN rfl rfl rfl | exact q_cap_slice rfl rfl))) | refine cod_seq ?_ | refine cod_region ?_ | refine run_nil ?_ | refine pst_then ?_ | (apply cod_cond_t; (focus rfl)) | refine cod_ret ?_ | refine pst_then_ret ?_ | (apply run_osg 8; (focus rfl); (focus exact wt); (focus rfl); (focus (exact opr_box_agg rfl rfl)); (rintro _ _ ⟨b, rfl, rfl⟩)) | (apply run_osg 8; (focus rfl); (focus exact wt); (focus rfl); (focus (exact opr_new rfl)); (rintro _ _ ⟨b, rfl, rfl⟩)) | (apply run_ong 9; (focus rfl); (focus exact wt); (focus (exact opr_store_box_agg rfl rfl rfl (by exact pka) rfl rfl rfl (by exact spla))); (rintro _ _ ⟨rfl, rfl⟩)) | (apply run_offs; (focus rfl); (focus rfl); (focus rfl)) | ((first | (apply run_lss; (rotate_left 2); (focus rfl)) | (apply run_leq; (rotate_left 2); (focus rfl)) | (apply run_gtr; (rotate_left 2); (focus rfl)) | (apply run_geq; (rotate_left 2); (focus rfl)) | (apply run_eql; (rotate_left 2); (focus rfl)) | (apply run_neq; (rotate_left 2); (focus rfl)) | (apply run_seq; (rotate_left 2); (focus rfl)) | (apply run_sneq; (rotate_left 2); (focus rfl))); (focus rfl); (focus rfl); (rotate_right 2); (focus exact wt); (focus rfl); (all_goals (intro h; dsimp only [upd])))))
    all_goals first | (exfalso; omega) | exact pst_fin rfl (by exact resa) _ (⟨rfl, rfl⟩) (by exact hsa)
  · obtain ⟨k, rfl⟩ := Int.eq_ofNat_of_zero_le (by omega : 0 ≤ x)
    obtain ⟨j, rfl⟩ := Int.eq_ofNat_of_zero_le (by omega : 0 ≤ y)
    have hk : k < cs.length := by omega
    cases hlog : logF cs ps k with
    | none =>
      have C0 := cell_none (a := a) (w := w) (ca := ca) (cw := cw) hk hg hlog
      have e : blobF cs ps ((k : Int), (j : Int)) = (zBl, 18) := by unfold blobF; rw [if_neg h1]; dsimp only; rw [Int.toNat_natCast, hlog]
      rw [e]
      unfold zBl
      dsimp only
      (refine spec_enter Try.func41 Try.ntmps41 rfl rfl fun Fr => ?_; dsimp only [List.cons_append, List.nil_append, ini, Nat.reduceAdd])
      (repeat' (first | (apply run_qg 1; (focus rfl); (focus exact wt); (focus rfl); (focus (exact qg1))) | (apply run_qg 2; (focus rfl); (focus exact wt); (focus rfl); (focus (first | exact qg2 | exact qs2))) | (apply run_qg 3; (focus rfl); (focus exact wt); (focus rfl); (focus (first | exact qg3 | exact qs3))) | (apply run_qg 4; (focus rfl); (focus exact wt); (focus rfl); (focus (first | exact qg4 | exact qs4))) | (apply run_qg 6; (focus rfl); (focus exact wt); (focus rfl); (focus (first | exact qs6 | exact qg6 | exact q_max rfl rfl rfl | exact q_sliceData rfl rfl (by omega) | exact q_sliceDataN rfl rfl | exact q_unsafeStringN rfl rfl rfl | exact q_cap_slice rfl rfl))) | refine cod_seq ?_ | refine cod_region ?_ | refine run_nil ?_ | refine pst_then ?_ | (apply cod_cond_f; (focus rfl)) | refine cod_skip ?_ | (apply run_osg 8; (focus rfl); (focus exact wt); (focus rfl); (focus (exact opr_box_agg rfl rfl)); (rintro _ _ ⟨b, rfl, rfl⟩)) | (apply run_osg 8; (focus rfl); (focus exact wt); (focus rfl); (focus (exact opr_new rfl)); (rintro _ _ ⟨b, rfl, rfl⟩))))
      (refine run_os wt rfl (opr_call_l rfl (C0) rfl (by exact lpa)) ?_; rintro _ _ ⟨_, ⟨n, rfl, rfl⟩, rfl⟩; dsimp only [List.cons_append, List.nil_append])
      (repeat' (first | (apply run_qg 1; (focus rfl); (focus exact wt); (focus rfl); (focus (exact qg1))) | (apply run_qg 4; (focus rfl); (focus exact wt); (focus rfl); (focus (first | exact qg4 | exact qs4))) | (apply run_qg 5; (focus rfl); (focus exact wt); (focus rfl); (focus (exact qg5))) | refine cod_seq ?_ | refine cod_region ?_ | refine run_nil ?_ | refine pst_then ?_ | (apply cod_cond_t; (focus rfl)) | refine cod_ret ?_ | refine pst_then_ret ?_ | (apply run_ong 9; (focus rfl); (focus exact wt); (focus (exact opr_store_box_agg rfl rfl rfl (by exact pka) rfl rfl rfl (by exact spla))); (rintro _ _ ⟨rfl, rfl⟩))))
      exact pst_fin rfl (by exact resa) _ (⟨rfl, rfl⟩) (by exact hsa)
    | some r =>
      obtain ⟨n, zs, b⟩ := r
      have C0 := cell_some (a := a) (w := w) (ca := ca) (cw := cw) hk hg hlog
      have hz40 := (log_right hlog).1
      by_cases h2 : zs.length ≤ j
      · have e : blobF cs ps ((k : Int), (j : Int)) = (zBl, 12) := by unfold blobF; rw [if_neg h1]; dsimp only; rw [Int.toNat_natCast, hlog]; dsimp only; rw [if_pos (by omega)]
        rw [e]
        unfold zBl
        dsimp only
        (refine spec_enter Try.func41 Try.ntmps41 rfl rfl fun Fr => ?_; dsimp only [List.cons_append, List.nil_append, ini, Nat.reduceAdd])
        (repeat' (first | (apply run_qg 1; (focus rfl); (focus exact wt); (focus rfl); (focus (exact qg1))) | (apply run_qg 2; (focus rfl); (focus exact wt); (focus rfl); (focus (first | exact qg2 | exact qs2))) | (apply run_qg 3; (focus rfl); (focus exact wt); (focus rfl); (focus (first | exact qg3 | exact qs3))) | (apply run_qg 4; (focus rfl); (focus exact wt); (focus rfl); (focus (first | exact qg4 | exact qs4))) | (apply run_qg 6; (focus rfl); (focus exact wt); (focus rfl); (focus (first | exact qs6 | exact qg6 | exact q_max rfl rfl rfl | exact q_sliceData rfl rfl (by omega) | exact q_sliceDataN rfl rfl | exact q_unsafeStringN rfl rfl rfl | exact q_cap_slice rfl rfl))) | refine cod_seq ?_ | refine cod_region ?_ | refine run_nil ?_ | refine pst_then ?_ | (apply cod_cond_f; (focus rfl)) | refine cod_skip ?_ | (apply run_osg 8; (focus rfl); (focus exact wt); (focus rfl); (focus (exact opr_box_agg rfl rfl)); (rintro _ _ ⟨b, rfl, rfl⟩)) | (apply run_osg 8; (focus rfl); (focus exact wt); (focus rfl); (focus (exact opr_new rfl)); (rintro _ _ ⟨b, rfl, rfl⟩))))
        (refine run_os wt rfl (opr_call_l rfl (C0) rfl (by exact lpa)) ?_; rintro _ _ ⟨_, ⟨q, c, rfl, rfl⟩, rfl⟩; dsimp only [List.cons_append, List.nil_append])
        (repeat' (first | (apply run_qg 1; (focus rfl); (focus exact wt); (focus rfl); (focus (exact qg1))) | (apply run_qg 2; (focus rfl); (focus exact wt); (focus rfl); (focus (first | exact qg2 | exact qs2))) | (apply run_qg 3; (focus rfl); (focus exact wt); (focus rfl); (focus (first | exact qg3 | exact qs3))) | (apply run_qg 4; (focus rfl); (focus exact wt); (focus rfl); (focus (first | exact qg4 | exact qs4))) | (apply run_qg 5; (focus rfl); (focus exact wt); (focus rfl); (focus (exact qg5))) | (apply run_qg 6; (focus rfl); (focus exact wt); (focus rfl); (focus (first | exact qs6 | exact qg6 | exact q_max rfl rfl rfl | exact q_sliceData rfl rfl (by omega) | exact q_sliceDataN rfl rfl | exact q_unsafeStringN rfl rfl rfl | exact q_cap_slice rfl rfl))) | refine cod_seq ?_ | refine cod_region ?_ | refine run_nil ?_ | refine pst_then ?_ | (apply cod_cond_t; (focus rfl)) | (apply cod_cond_f; (focus rfl)) | refine cod_ret ?_ | refine cod_skip ?_ | refine pst_then_ret ?_ | (apply run_ong 9; (focus rfl); (focus exact wt); (focus (exact opr_store_box_agg rfl rfl rfl (by exact pka) rfl rfl rfl (by exact spla))); (rintro _ _ ⟨rfl, rfl⟩))))
        exact pst_fin rfl (by exact resa) _ (⟨rfl, rfl⟩) (by exact hsa)
      · obtain ⟨z, hz⟩ : ∃ z, zs[j]? = some z := ⟨_, List.getElem?_eq_getElem (by omega)⟩
        have e : blobF cs ps ((k : Int), (j : Int)) = (z, 0) := by unfold blobF; rw [if_neg h1]; dsimp only; rw [Int.toNat_natCast, hlog]; dsimp only; rw [if_neg (by omega), Int.toNat_natCast, List.getD_eq_getElem?_getD, hz]; rfl
        rw [e]
        dsimp only
        (refine spec_enter Try.func41 Try.ntmps41 rfl rfl fun Fr => ?_; dsimp only [List.cons_append, List.nil_append, ini, Nat.reduceAdd])
        (repeat' (first | (apply run_qg 1; (focus rfl); (focus exact wt); (focus rfl); (focus (exact qg1))) | (apply run_qg 2; (focus rfl); (focus exact wt); (focus rfl); (focus (first | exact qg2 | exact qs2))) | (apply run_qg 3; (focus rfl); (focus exact wt); (focus rfl); (focus (first | exact qg3 | exact qs3))) | (apply run_qg 4; (focus rfl); (focus exact wt); (focus rfl); (focus (first | exact qg4 | exact qs4))) | (apply run_qg 6; (focus rfl); (focus exact wt); (focus rfl); (focus (first | exact qs6 | exact qg6 | exact q_max rfl rfl rfl | exact q_sliceData rfl rfl (by omega) | exact q_sliceDataN rfl rfl | exact q_unsafeStringN rfl rfl rfl | exact q_cap_slice rfl rfl))) | refine cod_seq ?_ | refine cod_region ?_ | refine run_nil ?_ | refine pst_then ?_ | (apply cod_cond_f; (focus rfl)) | refine cod_skip ?_ | (apply run_osg 8; (focus rfl); (focus exact wt); (focus rfl); (focus (exact opr_box_agg rfl rfl)); (rintro _ _ ⟨b, rfl, rfl⟩)) | (apply run_osg 8; (focus rfl); (focus exact wt); (focus rfl); (focus (exact opr_new rfl)); (rintro _ _ ⟨b, rfl, rfl⟩))))
        (refine run_os wt rfl (opr_call_l rfl (C0) rfl (by exact lpa)) ?_; rintro _ _ ⟨_, ⟨q, c, rfl, rfl⟩, rfl⟩; dsimp only [List.cons_append, List.nil_append])
        (repeat' (first | (apply run_qg 1; (focus rfl); (focus exact wt); (focus rfl); (focus (exact qg1))) | (apply run_qg 2; (focus rfl); (focus exact wt); (focus rfl); (focus (first | exact qg2 | exact qs2))) | (apply run_qg 3; (focus rfl); (focus exact wt); (focus rfl); (focus (first | exact qg3 | exact qs3))) | (apply run_qg 4; (focus rfl); (focus exact wt); (focus rfl); (focus (first | exact qg4 | exact qs4))) | (apply run_qg 6; (focus rfl); (focus exact wt); (focus rfl); (focus (first | exact qs6 | exact qg6 | exact q_max rfl rfl rfl | exact q_sliceData rfl rfl (by omega) | exact q_sliceDataN rfl rfl | exact q_unsafeStringN rfl rfl rfl | exact q_cap_slice rfl rfl))) | refine cod_seq ?_ | refine cod_region ?_ | refine run_nil ?_ | refine pst_then ?_ | (apply cod_cond_f; (focus rfl)) | refine cod_ret ?_ | refine cod_skip ?_ | (apply run_ong 9; (focus rfl); (focus exact wt); (focus (exact opr_store_box_agg rfl rfl rfl (by exact pka) rfl rfl rfl (by exact spla))); (rintro _ _ ⟨rfl, rfl⟩))))
        exact pst_fin rfl (by exact resa) _ (⟨rfl, rfl⟩) (by exact hsa)
end Go.Proofs.Ytcaefeooneomnaa.use
