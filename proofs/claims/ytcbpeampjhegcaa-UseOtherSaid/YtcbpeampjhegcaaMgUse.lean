/-
  Several texts in one: Scan, Use, Count.
-/
import Derived.Test.YtcbpeampjhegcaaSealLaw
import Derived.Test.YtcbpeampjhegcaaBlobLaw
import Derived.Test.YtcbpeampjhegcaaDiskNow
import Derived.Test.YtcbpeampjhegcaaMgImap
import Derived.Test.YtcbpeampjhegcaaSlU64
import Derived.Test.YtcbpeampjhegcaaRowN
/-
  scan.Cell, use.Blob: what they answer, and the walks.
-/
namespace Go.Proofs.Ytcbpeampjhegcaa.use
open Go.RowKit kit sl Go.Proofs.Ytcbpeampjhegcaa.seal Go.Proofs.Ytcbpeampjhegcaa.disk Go.Proofs.Ytcbpeampjhegcaa.blob
set_option linter.unusedVariables false
abbrev Cells := List ByteArray
abbrev Waits := List (Int × ByteArray)
theorem now_bd {cs : Cells} {ps : Waits} (h : disk.Good cs ps) (k : Int) : (nowD cs ps k).size ≤ 1024 := by
  unfold nowD
  cases hf : ps.reverse.find? (fun p => p.1 == k) with
  | some p =>
    have hm := List.mem_of_find?_eq_some hf
    have := h.puts p (List.mem_reverse.1 hm)
    exact (put_zero.1 this).2.2
  | none =>
    show (cs.getD k.toNat ⟨#[]⟩).size ≤ 1024
    rw [List.getD_eq_getElem?_getD]
    cases hg : cs[k.toNat]? with
    | some s => exact h.cells s (List.mem_of_getElem? hg)
    | none => exact Nat.zero_le _
def nowL (cs : Cells) (ps : Waits) (k : Nat) : List UInt8 := (nowD cs ps k).data.toList
theorem now_str (cs : Cells) (ps : Waits) (k : Nat) : nowD cs ps k = str (nowL cs ps k) := rfl
/-- a right cell of the log: its number, its blobs, whether it is a last one -/
def logF (cs : Cells) (ps : Waits) (k : Nat) : Option (Int × List Blob × Bool) :=
  if openE (nowL cs ps k) = 0 ∧ openK (nowL cs ps k) = 1 then (readO (openB (nowL cs ps k))).map fun zs => (openN (nowL cs ps k), zs, ((openB (nowL cs ps k)).getD 0 0).toNat == 1) else none
def CellR (cs : Cells) (ps : Waits) (k : Nat) (v : Value) (H' : List Ent) : Prop :=
  (∃ n zs b q c, logF cs ps k = some (n, zs, b) ∧ v = .tuple #[.int .i64 n, .slice q zs.length c, .bool b, .bool true] ∧ H' = [own (.slice q zs.length c) 56 4 zs.length (flat fBl zs)]) ∨
  (logF cs ps k = none ∧ ∃ n, v = .tuple #[.int .i64 n, .slice none 0 0, .bool false, .bool false] ∧ H' = [])
instance {cs : Cells} {ps : Waits} {k : Nat} : Xcl (CellR cs ps k) := by unfold CellR; infer_instance
theorem ct_mono {P : Program} {f : FuncId} {args : List Value} {H : List Ent} {R R' : Value → List Ent → Prop} (h : Ct P f args H R) (k : ∀ v H', R v H' → R' v H') : Ct P f args H R' := ⟨fun Fr w hw => (h.go Fr w hw).mono fun e w' ⟨v, H', h1, h2, h3⟩ => ⟨v, H', h1, k v H' h2, h3⟩⟩
theorem read_some {L : List UInt8} {zs : List Blob} (hL : L.length ≤ 1000000000000000) (h : readO L = some zs) : Ct Try.prog 36 [.string (str L)] [] fun v H' => ∃ q c, v = .tuple #[.slice q zs.length c, .bool ((L.getD 0 0).toNat == 1), .int .i64 0] ∧ H' = [own (.slice q zs.length c) 56 4 zs.length (flat fBl zs)] :=
  ct_mono (read_any L hL) fun v H' h2 => by
    rcases h2 with ⟨zs', q, c, e, h3, h4⟩ | ⟨e, _⟩
    · rw [h] at e; cases e; exact ⟨q, c, h3, h4⟩
    · rw [h] at e; cases e
theorem read_none {L : List UInt8} (hL : L.length ≤ 1000000000000000) (h : readO L = none) : Ct Try.prog 36 [.string (str L)] [] fun v H' => v = .tuple #[.slice none 0 0, .bool false, .int .i64 4] ∧ H' = [] :=
  ct_mono (read_any L hL) fun v H' h2 => by
    rcases h2 with ⟨zs', q, c, e, _⟩ | ⟨_, h3⟩
    · rw [h] at e; cases e
    · exact h3
attribute [local irreducible] box own sl old bptr eptr Qt Opr Run Cod Pst Drn
set_option maxRecDepth 100000 in
set_option maxHeartbeats 8000000 in
theorem cell_any (a w : Option Addr) (ca cw : Nat) (cs : Cells) (ps : Waits) (k : Nat) (hk : k < cs.length) (hg : disk.Good cs ps) :
    Ct Try.prog 25 [.agg #[.slice a cs.length ca, .slice w ps.length cw], .int .i64 (k : Int)] [sl 1 (.slice a cs.length ca) (cs.map fS), sl 2 (.slice w ps.length cw) (ps.map fP)] (CellR cs ps k) := by
  have hw := hg.wait
  have N0 := now_any a w ca cw cs ps k hk (by omega)
  have hb := now_bd hg (k : Int)
  rw [now_str] at N0 hb
  rw [str_size] at hb
  obtain ⟨l, hl⟩ : ∃ l, nowL cs ps k = l := ⟨_, rfl⟩
  rw [hl] at N0 hb
  have O0 := open_any l (by omega)
  have hob : (openB l).length ≤ 1024 := by unfold openB cutB; rw [List.length_take, List.length_drop]; omega
  by_cases hE : openE l = 0
  · rw [openV_ok hE] at O0
    by_cases hK : openK l = 1
    · cases hr : readO (openB l) with
      | some zs =>
        have R0 := read_some (by omega) hr
        have hlog : logF cs ps k = some (openN l, zs, ((openB l).getD 0 0).toNat == 1) := by unfold logF; rw [hl, if_pos ⟨hE, hK⟩, hr]; rfl
        rw [hK] at O0
        unfold CellR
        rw [hlog]
        generalize (((openB l).getD 0 0).toNat == 1) = bb at *
        generalize openN l = nn at *
        generalize openB l = bl at *
        clear hE hK
        (refine spec_enter Try.func25 Try.ntmps25 rfl rfl fun Fr => ?_; dsimp only [List.cons_append, List.nil_append, ini, Nat.reduceAdd])
        (repeat' (first | (apply run_qg 1; (focus rfl); (focus exact wt); (focus rfl); (focus (exact qg1))) | (apply run_qg 2; (focus rfl); (focus exact wt); (focus rfl); (focus (first | exact qg2 | exact qs2))) | (apply run_qg 4; (focus rfl); (focus exact wt); (focus rfl); (focus (first | exact qg4 | exact qs4))) | refine cod_seq ?_ | refine cod_region ?_ | refine run_nil ?_ | refine pst_then ?_ | (apply cod_cond_f; (focus rfl)) | refine cod_skip ?_ | (apply run_osg 8; (focus rfl); (focus exact wt); (focus rfl); (focus (exact opr_box_agg rfl rfl)); (rintro _ _ ⟨b, rfl, rfl⟩)) | (apply run_osg 7; (focus rfl); (focus exact wt); (focus rfl); (focus (exact opr_call_ls (by rfl) (N0 ..) (by rfl) lpa)); (rintro _ _ ⟨rfl, rfl⟩)) | (apply run_osg 7; (focus rfl); (focus exact wt); (focus rfl); (focus (exact opr_call_ls (by rfl) (O0 ..) (by rfl) lpa)); (rintro _ _ ⟨rfl, rfl⟩))))
        (refine run_os wt rfl (opr_call_l rfl (R0) rfl (by exact lpa)) ?_; rintro _ _ ⟨_, ⟨q, c, rfl, rfl⟩, rfl⟩; dsimp only [List.cons_append, List.nil_append])
        (repeat' (first | (apply run_qg 1; (focus rfl); (focus exact wt); (focus rfl); (focus (exact qg1))) | (apply run_qg 4; (focus rfl); (focus exact wt); (focus rfl); (focus (first | exact qg4 | exact qs4))) | refine cod_seq ?_ | refine cod_region ?_ | refine run_nil ?_ | refine pst_then ?_ | refine cod_ret ?_))
        exact pst_fin rfl (by exact resa) _ (.inl ⟨_, _, _, q, c, rfl, rfl, rfl⟩) (by exact hsa)
      | none =>
        have R0 := read_none (by omega) hr
        have hlog : logF cs ps k = none := by unfold logF; rw [hl, if_pos ⟨hE, hK⟩, hr]; rfl
        rw [hK] at O0
        unfold CellR
        rw [hlog]
        generalize openN l = nn at *
        generalize openB l = bl at *
        clear hE hK
        (refine spec_enter Try.func25 Try.ntmps25 rfl rfl fun Fr => ?_; dsimp only [List.cons_append, List.nil_append, ini, Nat.reduceAdd])
        (repeat' (first | (apply run_qg 1; (focus rfl); (focus exact wt); (focus rfl); (focus (exact qg1))) | (apply run_qg 2; (focus rfl); (focus exact wt); (focus rfl); (focus (first | exact qg2 | exact qs2))) | (apply run_qg 4; (focus rfl); (focus exact wt); (focus rfl); (focus (first | exact qg4 | exact qs4))) | refine cod_seq ?_ | refine cod_region ?_ | refine run_nil ?_ | refine pst_then ?_ | (apply cod_cond_f; (focus rfl)) | refine cod_ret ?_ | refine cod_skip ?_ | (apply run_osg 8; (focus rfl); (focus exact wt); (focus rfl); (focus (exact opr_box_agg rfl rfl)); (rintro _ _ ⟨b, rfl, rfl⟩)) | (apply run_osg 7; (focus rfl); (focus exact wt); (focus rfl); (focus (exact opr_call_ls (by rfl) (N0 ..) (by rfl) lpa)); (rintro _ _ ⟨rfl, rfl⟩)) | (apply run_osg 7; (focus rfl); (focus exact wt); (focus rfl); (focus (exact opr_call_ls (by rfl) (O0 ..) (by rfl) lpa)); (rintro _ _ ⟨rfl, rfl⟩)) | (apply run_osg 7; (focus rfl); (focus exact wt); (focus rfl); (focus (exact opr_call_ls (by rfl) (R0 ..) (by rfl) lpa)); (rintro _ _ ⟨rfl, rfl⟩))))
        exact pst_fin rfl (by exact resa) _ (.inr ⟨rfl, _, rfl, rfl⟩) (by exact hsa)
    · have hlog : logF cs ps k = none := by unfold logF; rw [hl, if_neg (fun h => hK h.2)]
      unfold CellR
      rw [hlog]
      generalize openN l = nn at *
      generalize openB l = bl at *
      generalize openK l = kk at *
      clear hE
      (refine spec_enter Try.func25 Try.ntmps25 rfl rfl fun Fr => ?_; dsimp only [List.cons_append, List.nil_append, ini, Nat.reduceAdd])
      (repeat' (first | (apply run_qg 1; (focus rfl); (focus exact wt); (focus rfl); (focus (exact qg1))) | (apply run_qg 2; (focus rfl); (focus exact wt); (focus rfl); (focus (first | exact qg2 | exact qs2))) | (apply run_qg 4; (focus rfl); (focus exact wt); (focus rfl); (focus (first | exact qg4 | exact qs4))) | refine cod_seq ?_ | refine cod_region ?_ | refine run_nil ?_ | refine pst_then ?_ | (apply cod_cond_t; (focus rfl)) | refine cod_ret ?_ | refine pst_then_ret ?_ | (apply run_osg 8; (focus rfl); (focus exact wt); (focus rfl); (focus (exact opr_box_agg rfl rfl)); (rintro _ _ ⟨b, rfl, rfl⟩)) | (apply run_osg 7; (focus rfl); (focus exact wt); (focus rfl); (focus (exact opr_call_ls (by rfl) (N0 ..) (by rfl) lpa)); (rintro _ _ ⟨rfl, rfl⟩)) | (apply run_osg 7; (focus rfl); (focus exact wt); (focus rfl); (focus (exact opr_call_ls (by rfl) (O0 ..) (by rfl) lpa)); (rintro _ _ ⟨rfl, rfl⟩))))
      exact pst_fin rfl (by exact resa) _ (.inr ⟨rfl, _, rfl, rfl⟩) (by exact hsa)
  · rw [openV_no hE] at O0
    have hlog : logF cs ps k = none := by unfold logF; rw [hl, if_neg (fun h => hE h.1)]
    unfold CellR
    rw [hlog]
    generalize openE l = ee at *
    (refine spec_enter Try.func25 Try.ntmps25 rfl rfl fun Fr => ?_; dsimp only [List.cons_append, List.nil_append, ini, Nat.reduceAdd])
    (repeat' (first | (apply run_qg 1; (focus rfl); (focus exact wt); (focus rfl); (focus (exact qg1))) | (apply run_qg 2; (focus rfl); (focus exact wt); (focus rfl); (focus (first | exact qg2 | exact qs2))) | (apply run_qg 4; (focus rfl); (focus exact wt); (focus rfl); (focus (first | exact qg4 | exact qs4))) | refine cod_seq ?_ | refine cod_region ?_ | refine run_nil ?_ | refine pst_then ?_ | (apply cod_cond_t; (focus rfl)) | refine cod_ret ?_ | refine pst_then_ret ?_ | (apply run_osg 8; (focus rfl); (focus exact wt); (focus rfl); (focus (exact opr_box_agg rfl rfl)); (rintro _ _ ⟨b, rfl, rfl⟩)) | (apply run_offs; (focus rfl); (focus rfl); (focus rfl)) | (apply run_osg 7; (focus rfl); (focus exact wt); (focus rfl); (focus (exact opr_call_ls (by rfl) (N0 ..) (by rfl) lpa)); (rintro _ _ ⟨rfl, rfl⟩)) | (apply run_osg 7; (focus rfl); (focus exact wt); (focus rfl); (focus (exact opr_call_ls (by rfl) (O0 ..) (by rfl) lpa)); (rintro _ _ ⟨rfl, rfl⟩))))
    exact pst_fin rfl (by exact resa) _ (.inr ⟨rfl, _, rfl, rfl⟩) (by exact hsa)
theorem log_right {cs : Cells} {ps : Waits} {k : Nat} {n : Int} {zs : List Blob} {b : Bool} (h : logF cs ps k = some (n, zs, b)) : zs.length ≤ 40 ∧ ∀ p ∈ zs, blobE p = 0 := by
  unfold logF at h
  split at h
  · cases hr : readO (openB (nowL cs ps k)) with
    | none => rw [hr] at h; cases h
    | some y =>
      rw [hr] at h
      simp only [Option.map_some, Option.some.injEq, Prod.mk.injEq] at h
      obtain ⟨_, rfl, _⟩ := h
      have hw := writeE_zero (write_read hr).1
      exact ⟨hw.1, hw.2.1⟩
  · cases h
def zBl : Blob := (0, 0, 0, [])
/-- the blob of a place -/
def blobF (cs : Cells) (ps : Waits) (p : Int × Int) : Blob × Int :=
  if p.1 < 2 ∨ (cs.length : Int) ≤ p.1 ∨ p.2 < 0 then (zBl, 12) else
  match logF cs ps p.1.toNat with
  | none => (zBl, 18)
  | some r => if (r.2.1.length : Int) ≤ p.2 then (zBl, 12) else (r.2.1.getD p.2.toNat zBl, 0)
theorem cell_some {a w : Option Addr} {ca cw : Nat} {cs : Cells} {ps : Waits} {k : Nat} {n : Int} {zs : List Blob} {b : Bool} (hk : k < cs.length) (hg : disk.Good cs ps) (h : logF cs ps k = some (n, zs, b)) :
    Ct Try.prog 25 [.agg #[.slice a cs.length ca, .slice w ps.length cw], .int .i64 (k : Int)] [sl 1 (.slice a cs.length ca) (cs.map fS), sl 2 (.slice w ps.length cw) (ps.map fP)] fun v H' => ∃ q c, v = .tuple #[.int .i64 n, .slice q zs.length c, .bool b, .bool true] ∧ H' = [own (.slice q zs.length c) 56 4 zs.length (flat fBl zs)] :=
  ct_mono (cell_any a w ca cw cs ps k hk hg) fun v H' h2 => by
    rcases h2 with ⟨n', zs', b', q, c, e, h3, h4⟩ | ⟨e, _⟩
    · rw [h] at e; cases e; exact ⟨q, c, h3, h4⟩
    · rw [h] at e; cases e
theorem cell_none {a w : Option Addr} {ca cw : Nat} {cs : Cells} {ps : Waits} {k : Nat} (hk : k < cs.length) (hg : disk.Good cs ps) (h : logF cs ps k = none) :
    Ct Try.prog 25 [.agg #[.slice a cs.length ca, .slice w ps.length cw], .int .i64 (k : Int)] [sl 1 (.slice a cs.length ca) (cs.map fS), sl 2 (.slice w ps.length cw) (ps.map fP)] fun v H' => ∃ n, v = .tuple #[.int .i64 n, .slice none 0 0, .bool false, .bool false] ∧ H' = [] :=
  ct_mono (cell_any a w ca cw cs ps k hk hg) fun v H' h2 => by
    rcases h2 with ⟨n', zs', b', q, c, e, _⟩ | ⟨_, n, h3, h4⟩
    · rw [h] at e; cases e
    · exact ⟨n, h3, h4⟩
set_option maxRecDepth 100000 in
set_option maxHeartbeats 8000000 in
theorem blob_any (a w : Option Addr) (ca cw : Nat) (cs : Cells) (ps : Waits) (p : Int × Int) (hg : disk.Good cs ps) :
    Ct Try.prog 21 [.agg #[.slice a cs.length ca, .slice w ps.length cw], .agg #[.int .i64 p.1, .int .i64 p.2]] [sl 1 (.slice a cs.length ca) (cs.map fS), sl 2 (.slice w ps.length cw) (ps.map fP)] fun v H' => v = .tuple #[.agg #[.int .i64 (blobF cs ps p).1.1, .int .i64 (blobF cs ps p).1.2.1, .int .i64 (blobF cs ps p).1.2.2.1, .string (str (blobF cs ps p).1.2.2.2)], .int .i64 (blobF cs ps p).2] ∧ H' = [] := by
  obtain ⟨x, y⟩ := p
  have hn1 := hg.n1
  by_cases h1 : x < 2 ∨ (cs.length : Int) ≤ x ∨ y < 0
  · have e : blobF cs ps (x, y) = (zBl, 12) := by unfold blobF; rw [if_pos h1]
    rw [e]
    unfold zBl
    dsimp only
    (refine spec_enter Try.func21 Try.ntmps21 rfl rfl fun Fr => ?_; dsimp only [List.cons_append, List.nil_append, ini, Nat.reduceAdd])
    (repeat' (first | (apply run_qg 1; (focus rfl); (focus exact wt); (focus rfl); (focus (exact qg1))) | (apply run_qg 2; (focus rfl); (focus exact wt); (focus rfl); (focus (first | exact qg2 | exact qs2))) | (apply run_qg 3; (focus rfl); (focus exact wt); (focus rfl); (focus (first | exact qg3 | exact qs3))) | (apply run_qg 4; (focus rfl); (focus exact wt); (focus rfl); (focus (first | exact qg4 | exact qs4))) | (apply run_qg 5; (focus rfl); (focus exact wt); (focus rfl); (focus (exact qg5))) | (apply run_qg 6; (focus rfl); (focus exact wt); (focus rfl); (focus (first | exact qs6 | exact qg6 | exact q_max rfl rfl rfl | exact q_sliceData rfl rfl (by omega) | exact q_sliceDataN rfl rfl | exact q_unsafeStringN rfl rfl rfl | exact q_cap_slice rfl rfl))) | refine cod_seq ?_ | refine cod_region ?_ | refine run_nil ?_ | refine pst_then ?_ | (apply cod_cond_t; (focus rfl)) | refine cod_ret ?_ | refine pst_then_ret ?_ | (apply run_osg 8; (focus rfl); (focus exact wt); (focus rfl); (focus (exact opr_box_agg rfl rfl)); (rintro _ _ ⟨b, rfl, rfl⟩)) | (apply run_osg 8; (focus rfl); (focus exact wt); (focus rfl); (focus (exact opr_new rfl)); (rintro _ _ ⟨b, rfl, rfl⟩)) | (apply run_ong 9; (focus rfl); (focus exact wt); (focus (exact opr_store_box_agg rfl rfl rfl (by exact pka) rfl rfl rfl (by exact spla))); (rintro _ _ ⟨rfl, rfl⟩)) | (apply run_offs; (focus rfl); (focus rfl); (focus rfl)) | ((first | (apply run_lss; (rotate_left 2); (focus rfl)) | (apply run_leq; (rotate_left 2); (focus rfl)) | (apply run_gtr; (rotate_left 2); (focus rfl)) | (apply run_geq; (rotate_left 2); (focus rfl)) | (apply run_eql; (rotate_left 2); (focus rfl)) | (apply run_neq; (rotate_left 2); (focus rfl)) | (apply run_seq; (rotate_left 2); (focus rfl)) | (apply run_sneq; (rotate_left 2); (focus rfl))); (focus rfl); (focus rfl); (rotate_right 2); (focus exact wt); (focus rfl); (all_goals (intro h; dsimp only [upd])))))
    all_goals first | (exfalso; omega) | exact pst_fin rfl (by exact resa) _ (⟨rfl, rfl⟩) (by exact hsa)
  · obtain ⟨k, rfl⟩ := Int.eq_ofNat_of_zero_le (by omega : 0 ≤ x)
    obtain ⟨j, rfl⟩ := Int.eq_ofNat_of_zero_le (by omega : 0 ≤ y)
    have hk : k < cs.length := by omega
    cases hlog : logF cs ps k with
    | none =>
      have C0 := cell_none (a := a) (w := w) (ca := ca) (cw := cw) hk hg hlog
      have e : blobF cs ps ((k : Int), (j : Int)) = (zBl, 18) := by unfold blobF; rw [if_neg h1]; dsimp only; rw [Int.toNat_natCast, hlog]
      rw [e]
      unfold zBl
      dsimp only
      (refine spec_enter Try.func21 Try.ntmps21 rfl rfl fun Fr => ?_; dsimp only [List.cons_append, List.nil_append, ini, Nat.reduceAdd])
      (repeat' (first | (apply run_qg 1; (focus rfl); (focus exact wt); (focus rfl); (focus (exact qg1))) | (apply run_qg 2; (focus rfl); (focus exact wt); (focus rfl); (focus (first | exact qg2 | exact qs2))) | (apply run_qg 3; (focus rfl); (focus exact wt); (focus rfl); (focus (first | exact qg3 | exact qs3))) | (apply run_qg 4; (focus rfl); (focus exact wt); (focus rfl); (focus (first | exact qg4 | exact qs4))) | (apply run_qg 6; (focus rfl); (focus exact wt); (focus rfl); (focus (first | exact qs6 | exact qg6 | exact q_max rfl rfl rfl | exact q_sliceData rfl rfl (by omega) | exact q_sliceDataN rfl rfl | exact q_unsafeStringN rfl rfl rfl | exact q_cap_slice rfl rfl))) | refine cod_seq ?_ | refine cod_region ?_ | refine run_nil ?_ | refine pst_then ?_ | (apply cod_cond_f; (focus rfl)) | refine cod_skip ?_ | (apply run_osg 8; (focus rfl); (focus exact wt); (focus rfl); (focus (exact opr_box_agg rfl rfl)); (rintro _ _ ⟨b, rfl, rfl⟩)) | (apply run_osg 8; (focus rfl); (focus exact wt); (focus rfl); (focus (exact opr_new rfl)); (rintro _ _ ⟨b, rfl, rfl⟩))))
      (refine run_os wt rfl (opr_call_l rfl (C0) rfl (by exact lpa)) ?_; rintro _ _ ⟨_, ⟨n, rfl, rfl⟩, rfl⟩; dsimp only [List.cons_append, List.nil_append])
      (repeat' (first | (apply run_qg 1; (focus rfl); (focus exact wt); (focus rfl); (focus (exact qg1))) | (apply run_qg 4; (focus rfl); (focus exact wt); (focus rfl); (focus (first | exact qg4 | exact qs4))) | (apply run_qg 5; (focus rfl); (focus exact wt); (focus rfl); (focus (exact qg5))) | refine cod_seq ?_ | refine cod_region ?_ | refine run_nil ?_ | refine pst_then ?_ | (apply cod_cond_t; (focus rfl)) | refine cod_ret ?_ | refine pst_then_ret ?_ | (apply run_ong 9; (focus rfl); (focus exact wt); (focus (exact opr_store_box_agg rfl rfl rfl (by exact pka) rfl rfl rfl (by exact spla))); (rintro _ _ ⟨rfl, rfl⟩))))
      exact pst_fin rfl (by exact resa) _ (⟨rfl, rfl⟩) (by exact hsa)
    | some r =>
      obtain ⟨n, zs, b⟩ := r
      have C0 := cell_some (a := a) (w := w) (ca := ca) (cw := cw) hk hg hlog
      have hz40 := (log_right hlog).1
      by_cases h2 : zs.length ≤ j
      · have e : blobF cs ps ((k : Int), (j : Int)) = (zBl, 12) := by unfold blobF; rw [if_neg h1]; dsimp only; rw [Int.toNat_natCast, hlog]; dsimp only; rw [if_pos (by omega)]
        rw [e]
        unfold zBl
        dsimp only
        (refine spec_enter Try.func21 Try.ntmps21 rfl rfl fun Fr => ?_; dsimp only [List.cons_append, List.nil_append, ini, Nat.reduceAdd])
        (repeat' (first | (apply run_qg 1; (focus rfl); (focus exact wt); (focus rfl); (focus (exact qg1))) | (apply run_qg 2; (focus rfl); (focus exact wt); (focus rfl); (focus (first | exact qg2 | exact qs2))) | (apply run_qg 3; (focus rfl); (focus exact wt); (focus rfl); (focus (first | exact qg3 | exact qs3))) | (apply run_qg 4; (focus rfl); (focus exact wt); (focus rfl); (focus (first | exact qg4 | exact qs4))) | (apply run_qg 6; (focus rfl); (focus exact wt); (focus rfl); (focus (first | exact qs6 | exact qg6 | exact q_max rfl rfl rfl | exact q_sliceData rfl rfl (by omega) | exact q_sliceDataN rfl rfl | exact q_unsafeStringN rfl rfl rfl | exact q_cap_slice rfl rfl))) | refine cod_seq ?_ | refine cod_region ?_ | refine run_nil ?_ | refine pst_then ?_ | (apply cod_cond_f; (focus rfl)) | refine cod_skip ?_ | (apply run_osg 8; (focus rfl); (focus exact wt); (focus rfl); (focus (exact opr_box_agg rfl rfl)); (rintro _ _ ⟨b, rfl, rfl⟩)) | (apply run_osg 8; (focus rfl); (focus exact wt); (focus rfl); (focus (exact opr_new rfl)); (rintro _ _ ⟨b, rfl, rfl⟩))))
        (refine run_os wt rfl (opr_call_l rfl (C0) rfl (by exact lpa)) ?_; rintro _ _ ⟨_, ⟨q, c, rfl, rfl⟩, rfl⟩; dsimp only [List.cons_append, List.nil_append])
        (repeat' (first | (apply run_qg 1; (focus rfl); (focus exact wt); (focus rfl); (focus (exact qg1))) | (apply run_qg 2; (focus rfl); (focus exact wt); (focus rfl); (focus (first | exact qg2 | exact qs2))) | (apply run_qg 3; (focus rfl); (focus exact wt); (focus rfl); (focus (first | exact qg3 | exact qs3))) | (apply run_qg 4; (focus rfl); (focus exact wt); (focus rfl); (focus (first | exact qg4 | exact qs4))) | (apply run_qg 5; (focus rfl); (focus exact wt); (focus rfl); (focus (exact qg5))) | (apply run_qg 6; (focus rfl); (focus exact wt); (focus rfl); (focus (first | exact qs6 | exact qg6 | exact q_max rfl rfl rfl | exact q_sliceData rfl rfl (by omega) | exact q_sliceDataN rfl rfl | exact q_unsafeStringN rfl rfl rfl | exact q_cap_slice rfl rfl))) | refine cod_seq ?_ | refine cod_region ?_ | refine run_nil ?_ | refine pst_then ?_ | (apply cod_cond_t; (focus rfl)) | (apply cod_cond_f; (focus rfl)) | refine cod_ret ?_ | refine cod_skip ?_ | refine pst_then_ret ?_ | (apply run_ong 9; (focus rfl); (focus exact wt); (focus (exact opr_store_box_agg rfl rfl rfl (by exact pka) rfl rfl rfl (by exact spla))); (rintro _ _ ⟨rfl, rfl⟩))))
        exact pst_fin rfl (by exact resa) _ (⟨rfl, rfl⟩) (by exact hsa)
      · obtain ⟨z, hz⟩ : ∃ z, zs[j]? = some z := ⟨_, List.getElem?_eq_getElem (by omega)⟩
        have e : blobF cs ps ((k : Int), (j : Int)) = (z, 0) := by unfold blobF; rw [if_neg h1]; dsimp only; rw [Int.toNat_natCast, hlog]; dsimp only; rw [if_neg (by omega), Int.toNat_natCast, List.getD_eq_getElem?_getD, hz]; rfl
        rw [e]
        dsimp only
        (refine spec_enter Try.func21 Try.ntmps21 rfl rfl fun Fr => ?_; dsimp only [List.cons_append, List.nil_append, ini, Nat.reduceAdd])
        (repeat' (first | (apply run_qg 1; (focus rfl); (focus exact wt); (focus rfl); (focus (exact qg1))) | (apply run_qg 2; (focus rfl); (focus exact wt); (focus rfl); (focus (first | exact qg2 | exact qs2))) | (apply run_qg 3; (focus rfl); (focus exact wt); (focus rfl); (focus (first | exact qg3 | exact qs3))) | (apply run_qg 4; (focus rfl); (focus exact wt); (focus rfl); (focus (first | exact qg4 | exact qs4))) | (apply run_qg 6; (focus rfl); (focus exact wt); (focus rfl); (focus (first | exact qs6 | exact qg6 | exact q_max rfl rfl rfl | exact q_sliceData rfl rfl (by omega) | exact q_sliceDataN rfl rfl | exact q_unsafeStringN rfl rfl rfl | exact q_cap_slice rfl rfl))) | refine cod_seq ?_ | refine cod_region ?_ | refine run_nil ?_ | refine pst_then ?_ | (apply cod_cond_f; (focus rfl)) | refine cod_skip ?_ | (apply run_osg 8; (focus rfl); (focus exact wt); (focus rfl); (focus (exact opr_box_agg rfl rfl)); (rintro _ _ ⟨b, rfl, rfl⟩)) | (apply run_osg 8; (focus rfl); (focus exact wt); (focus rfl); (focus (exact opr_new rfl)); (rintro _ _ ⟨b, rfl, rfl⟩))))
        (refine run_os wt rfl (opr_call_l rfl (C0) rfl (by exact lpa)) ?_; rintro _ _ ⟨_, ⟨q, c, rfl, rfl⟩, rfl⟩; dsimp only [List.cons_append, List.nil_append])
        (repeat' (first | (apply run_qg 1; (focus rfl); (focus exact wt); (focus rfl); (focus (exact qg1))) | (apply run_qg 2; (focus rfl); (focus exact wt); (focus rfl); (focus (first | exact qg2 | exact qs2))) | (apply run_qg 3; (focus rfl); (focus exact wt); (focus rfl); (focus (first | exact qg3 | exact qs3))) | (apply run_qg 4; (focus rfl); (focus exact wt); (focus rfl); (focus (first | exact qg4 | exact qs4))) | (apply run_qg 6; (focus rfl); (focus exact wt); (focus rfl); (focus (first | exact qs6 | exact qg6 | exact q_max rfl rfl rfl | exact q_sliceData rfl rfl (by omega) | exact q_sliceDataN rfl rfl | exact q_unsafeStringN rfl rfl rfl | exact q_cap_slice rfl rfl))) | refine cod_seq ?_ | refine cod_region ?_ | refine run_nil ?_ | refine pst_then ?_ | (apply cod_cond_f; (focus rfl)) | refine cod_ret ?_ | refine cod_skip ?_ | (apply run_ong 9; (focus rfl); (focus exact wt); (focus (exact opr_store_box_agg rfl rfl rfl (by exact pka) rfl rfl rfl (by exact spla))); (rintro _ _ ⟨rfl, rfl⟩))))
        exact pst_fin rfl (by exact resa) _ (⟨rfl, rfl⟩) (by exact hsa)
end Go.Proofs.Ytcbpeampjhegcaa.use
/-
  use.Part, use.Inode, use.At: what they answer, and the walks.
-/
namespace Go.Proofs.Ytcbpeampjhegcaa.use
open Go.RowKit kit sl Go.Proofs.Ytcbpeampjhegcaa.disk Go.Proofs.Ytcbpeampjhegcaa.blob Go.Proofs.Ytcbpeampjhegcaa.inode
set_option linter.unusedVariables false
theorem blob_text (cs : Cells) (ps : Waits) (p : Int × Int) : (blobF cs ps p).1.2.2.2.length ≤ 600 := by
  unfold blobF
  split
  · exact Nat.zero_le _
  · split
    · exact Nat.zero_le _
    · rename_i r hr
      split
      · exact Nat.zero_le _
      · obtain ⟨n, zs, b⟩ := r
        rename_i h1 h2
        dsimp only at h2 ⊢
        have hlt : p.2.toNat < zs.length := by omega
        rw [List.getD_eq_getElem?_getD, List.getElem?_eq_getElem hlt]
        exact (blobE_zero ((log_right hr).2 _ (List.getElem_mem hlt))).2.2.2.2.2.2
theorem blob_ok {cs : Cells} {ps : Waits} {p : Int × Int} (h : (blobF cs ps p).2 = 0) : 2 ≤ p.1 ∧ p.1 < (cs.length : Int) ∧ 0 ≤ p.2 := by
  unfold blobF at h
  split at h
  · cases h
  · omega
def partF (cs : Cells) (ps : Waits) (n k : Int) (p : Int × Int) : List UInt8 × Int :=
  if (blobF cs ps p).2 = 0 ∧ (blobF cs ps p).1.1 = 1 ∧ (blobF cs ps p).1.2.1 = n ∧ (blobF cs ps p).1.2.2.1 = k then ((blobF cs ps p).1.2.2.2, 0) else ([], 18)
def inoF (cs : Cells) (ps : Waits) (p : Int × Int) (g n : Int) : Option (List UInt8) :=
  if (blobF cs ps p).2 = 0 ∧ (blobF cs ps p).1.1 = 2 ∧ (blobF cs ps p).1.2.1 = n ∧ goodI (blobF cs ps p).1.2.2.2 ∧ gI (blobF cs ps p).1.2.2.2 = g then some (blobF cs ps p).1.2.2.2 else none
theorem read_good {l : List UInt8} (hl : l.length ≤ 4000000) (h : goodI l) : Ct Try.prog 22 [.string (str l)] [] fun v H' => ∃ q c, v = .tuple #[.agg #[.int .i64 (kI l), .int .i64 (gI l), .int .i64 (zI l), .slice q (pI l).length c], .int .i64 0] ∧ H' = [own (.slice q (pI l).length c) 38 2 (pI l).length (flat fII (pI l))] :=
  ct_mono (readI_any l hl) fun v H' h2 => by
    rcases h2 with ⟨_, h3⟩ | ⟨h3, _⟩
    · exact h3
    · exact absurd h h3
theorem read_bad {l : List UInt8} (hl : l.length ≤ 4000000) (h : ¬ goodI l) : Ct Try.prog 22 [.string (str l)] [] fun v H' => v = .tuple #[.agg #[.int .i64 0, .int .i64 0, .int .i64 0, .slice none 0 0], .int .i64 4] ∧ H' = [] :=
  ct_mono (readI_any l hl) fun v H' h2 => by
    rcases h2 with ⟨h3, _⟩ | ⟨_, h3⟩
    · exact absurd h3 h
    · exact h3
attribute [local irreducible] box own sl old bptr eptr Qt Opr Run Cod Pst Drn
set_option maxRecDepth 100000 in
set_option maxHeartbeats 8000000 in
theorem part_any (a w : Option Addr) (ca cw : Nat) (cs : Cells) (ps : Waits) (n k : Int) (p : Int × Int) (hg : disk.Good cs ps) :
    Ct Try.prog 14 [.agg #[.slice a cs.length ca, .slice w ps.length cw], .int .i64 n, .int .i64 k, .agg #[.int .i64 p.1, .int .i64 p.2]] [sl 1 (.slice a cs.length ca) (cs.map fS), sl 2 (.slice w ps.length cw) (ps.map fP)] fun v H' => v = .tuple #[.string (str (partF cs ps n k p).1), .int .i64 (partF cs ps n k p).2] ∧ H' = [] := by
  have B0 := blob_any a w ca cw cs ps p hg
  unfold partF
  obtain ⟨⟨⟨bk, bi, bn, bt⟩, e⟩, hb⟩ : ∃ r, blobF cs ps p = r := ⟨_, rfl⟩
  rw [hb] at B0 ⊢
  dsimp only at B0 ⊢
  by_cases h : e = 0 ∧ bk = 1 ∧ bi = n ∧ bn = k
  · rw [if_pos h]
    obtain ⟨rfl, rfl, rfl, rfl⟩ := h
    (refine spec_enter Try.func14 Try.ntmps14 rfl rfl fun Fr => ?_; dsimp only [List.cons_append, List.nil_append, ini, Nat.reduceAdd])
    (repeat' (first | (apply run_qg 1; (focus rfl); (focus exact wt); (focus rfl); (focus (exact qg1))) | (apply run_qg 2; (focus rfl); (focus exact wt); (focus rfl); (focus (first | exact qg2 | exact qs2))) | (apply run_qg 3; (focus rfl); (focus exact wt); (focus rfl); (focus (first | exact qg3 | exact qs3))) | (apply run_qg 4; (focus rfl); (focus exact wt); (focus rfl); (focus (first | exact qg4 | exact qs4))) | refine cod_seq ?_ | refine cod_region ?_ | refine run_nil ?_ | refine pst_then ?_ | (apply cod_cond_f; (focus rfl)) | refine cod_ret ?_ | refine cod_skip ?_ | (apply run_osg 8; (focus rfl); (focus exact wt); (focus rfl); (focus (exact opr_box_agg rfl rfl)); (rintro _ _ ⟨b, rfl, rfl⟩)) | (apply run_osg 8; (focus rfl); (focus exact wt); (focus rfl); (focus (exact opr_new rfl)); (rintro _ _ ⟨b, rfl, rfl⟩)) | (apply run_ong 9; (focus rfl); (focus exact wt); (focus (exact opr_store_box_agg rfl rfl rfl (by exact pka) rfl rfl rfl (by exact spla))); (rintro _ _ ⟨rfl, rfl⟩)) | (apply run_osg 7; (focus rfl); (focus exact wt); (focus rfl); (focus (exact opr_call_ls (by rfl) (B0 ..) (by rfl) lpa)); (rintro _ _ ⟨rfl, rfl⟩))))
    exact pst_fin rfl (by exact resa) _ (⟨rfl, rfl⟩) (by exact hsa)
  · rw [if_neg h]
    (refine spec_enter Try.func14 Try.ntmps14 rfl rfl fun Fr => ?_; dsimp only [List.cons_append, List.nil_append, ini, Nat.reduceAdd])
    (repeat' (first | (apply run_qg 1; (focus rfl); (focus exact wt); (focus rfl); (focus (exact qg1))) | (apply run_qg 2; (focus rfl); (focus exact wt); (focus rfl); (focus (first | exact qg2 | exact qs2))) | (apply run_qg 3; (focus rfl); (focus exact wt); (focus rfl); (focus (first | exact qg3 | exact qs3))) | (apply run_qg 4; (focus rfl); (focus exact wt); (focus rfl); (focus (first | exact qg4 | exact qs4))) | refine cod_seq ?_ | refine cod_region ?_ | refine run_nil ?_ | refine pst_then ?_ | (apply cod_cond_t; (focus rfl)) | refine cod_ret ?_ | refine pst_then_ret ?_ | (apply run_osg 8; (focus rfl); (focus exact wt); (focus rfl); (focus (exact opr_box_agg rfl rfl)); (rintro _ _ ⟨b, rfl, rfl⟩)) | (apply run_osg 8; (focus rfl); (focus exact wt); (focus rfl); (focus (exact opr_new rfl)); (rintro _ _ ⟨b, rfl, rfl⟩)) | (apply run_ong 9; (focus rfl); (focus exact wt); (focus (exact opr_store_box_agg rfl rfl rfl (by exact pka) rfl rfl rfl (by exact spla))); (rintro _ _ ⟨rfl, rfl⟩)) | (apply run_offs; (focus rfl); (focus rfl); (focus rfl)) | (apply run_osg 7; (focus rfl); (focus exact wt); (focus rfl); (focus (exact opr_call_ls (by rfl) (B0 ..) (by rfl) lpa)); (rintro _ _ ⟨rfl, rfl⟩)) | ((first | (apply run_lss; (rotate_left 2); (focus rfl)) | (apply run_leq; (rotate_left 2); (focus rfl)) | (apply run_gtr; (rotate_left 2); (focus rfl)) | (apply run_geq; (rotate_left 2); (focus rfl)) | (apply run_eql; (rotate_left 2); (focus rfl)) | (apply run_neq; (rotate_left 2); (focus rfl)) | (apply run_seq; (rotate_left 2); (focus rfl)) | (apply run_sneq; (rotate_left 2); (focus rfl))); (focus rfl); (focus rfl); (rotate_right 2); (focus exact wt); (focus rfl); (all_goals (intro h; dsimp only [upd])))))
    all_goals first | (exfalso; omega) | exact pst_fin rfl (by exact resa) _ (⟨rfl, rfl⟩) (by exact hsa)
def InoR (cs : Cells) (ps : Waits) (p : Int × Int) (g n : Int) (v : Value) (H' : List Ent) : Prop :=
  (∃ l q c, inoF cs ps p g n = some l ∧ v = .tuple #[.agg #[.int .i64 (kI l), .int .i64 (gI l), .int .i64 (zI l), .slice q (pI l).length c], .string (str l), .int .i64 0] ∧ H' = [own (.slice q (pI l).length c) 38 2 (pI l).length (flat fII (pI l))]) ∨
  (inoF cs ps p g n = none ∧ v = .tuple #[.agg #[.int .i64 0, .int .i64 0, .int .i64 0, .slice none 0 0], .string (str []), .int .i64 18] ∧ H' = [])
instance {cs : Cells} {ps : Waits} {p : Int × Int} {g n : Int} : Xcl (InoR cs ps p g n) := by unfold InoR; infer_instance
set_option maxRecDepth 100000 in
set_option maxHeartbeats 8000000 in
theorem inode_any (a w qa qg : Option Addr) (ca cw ca2 cg : Nat) (cs : Cells) (ps : Waits) (at' : List (Int × Int)) (gens : List Int) (i : Nat) (p : Int × Int) (g : Int) (hp : at'[i]? = some p) (hgi : gens[i]? = some g) (hl : at'.length ≤ 1000) (hg : disk.Good cs ps) :
    Ct Try.prog 13 [.agg #[.slice a cs.length ca, .slice w ps.length cw], .agg #[.slice qa at'.length ca2, .slice qg gens.length cg], .int .i64 (i : Int)] [sl 1 (.slice a cs.length ca) (cs.map fS), sl 2 (.slice w ps.length cw) (ps.map fP), sl 2 (.slice qa at'.length ca2) (at'.map fII), sl 1 (.slice qg gens.length cg) (gens.map fI)] (InoR cs ps p g (i : Int)) := by
  have B0 := blob_any a w ca cw cs ps p hg
  have ht := blob_text cs ps p
  have hli : i < at'.length := (List.getElem?_eq_some_iff.1 hp).1
  have hlg : i < gens.length := (List.getElem?_eq_some_iff.1 hgi).1
  unfold InoR inoF
  obtain ⟨⟨⟨bk, bi, bn, bt⟩, e⟩, hb⟩ : ∃ r, blobF cs ps p = r := ⟨_, rfl⟩
  rw [hb] at B0 ht ⊢
  dsimp only at B0 ht ⊢
  by_cases h : e = 0 ∧ bk = 2 ∧ bi = (i : Int)
  · obtain ⟨rfl, rfl, rfl⟩ := h
    by_cases hgd : goodI bt
    · have R0 := read_good (by omega) hgd
      by_cases hgen : gI bt = g
      · rw [if_pos ⟨rfl, rfl, rfl, hgd, hgen⟩]
        (refine spec_enter Try.func13 Try.ntmps13 rfl rfl fun Fr => ?_; dsimp only [List.cons_append, List.nil_append, ini, Nat.reduceAdd])
        (repeat' (first | (apply run_qg 1; (focus rfl); (focus exact wt); (focus rfl); (focus (exact qg1))) | (apply run_qg 2; (focus rfl); (focus exact wt); (focus rfl); (focus (first | exact qg2 | exact qs2))) | (apply run_qg 3; (focus rfl); (focus exact wt); (focus rfl); (focus (first | exact qg3 | exact qs3))) | (apply run_qg 4; (focus rfl); (focus exact wt); (focus rfl); (focus (first | exact qg4 | exact qs4))) | refine cod_seq ?_ | refine cod_region ?_ | refine run_nil ?_ | refine pst_then ?_ | (apply cod_cond_f; (focus rfl)) | refine cod_skip ?_ | (apply run_osg 8; (focus rfl); (focus exact wt); (focus rfl); (focus (exact opr_box_agg rfl rfl)); (rintro _ _ ⟨b, rfl, rfl⟩)) | (apply run_osg 8; (focus rfl); (focus exact wt); (focus rfl); (focus (exact opr_new rfl)); (rintro _ _ ⟨b, rfl, rfl⟩)) | (apply cod_drawn_k; (focus kernel_rfl); (focus (simp only [List.length_cons, List.length_nil, Nat.reduceAdd]; rfl))) | (apply drnK_take 1; (focus rfl); (focus rfl); (focus exact wt); (focus (decide +kernel)); (focus exact hsq); (focus rfl); (focus (exact qg1))) | (apply drnK_take 2; (focus rfl); (focus rfl); (focus exact wt); (focus (decide +kernel)); (focus exact hsq); (focus rfl); (focus (first | exact qg2 | exact qs2))) | (apply drnK_take 3; (focus rfl); (focus rfl); (focus exact wt); (focus (decide +kernel)); (focus exact hsq); (focus rfl); (focus (first | exact qg3 | exact qs3))) | (apply drnK_ones 8; (focus rfl); (focus rfl); (focus (decide +kernel)); (focus exact wt); (focus rfl); (focus (exact opr_new rfl)); (rintro _ _ ⟨b, rfl, rfl⟩; refine ⟨(by first | exact fun h => absurd h (by decide) | exact fun _ => hsq), ?_⟩)) | (apply drnK_onen 9; (focus rfl); (focus rfl); (focus (decide +kernel)); (focus exact wt); (focus (exact opr_store_box_agg rfl rfl rfl (by exact pka) rfl rfl rfl (by exact spla))); (rintro _ _ ⟨rfl, rfl⟩; refine ⟨(by first | exact fun h => absurd h (by decide) | exact fun _ => hsq), ?_⟩)) | (apply drnK_end; (focus (decide +kernel))) | (apply drnK_done; (focus (decide +kernel))) | (apply drnK_ones 7; (focus rfl); (focus rfl); (focus (decide +kernel)); (focus exact wt); (focus rfl); (focus (exact opr_call_ls (by rfl) (B0 ..) (by rfl) lpa)); (rintro _ _ ⟨rfl, rfl⟩; refine ⟨(by first | exact fun h => absurd h (by decide) | exact fun _ => hsq), ?_⟩)) | (refine drnK_at 6 ?_; refine drnK_two 10 (by decide +kernel) ?_ ?_) | (apply drnI_s 1 _; (focus rfl); (focus exact wt); (focus rfl); (focus (exact opr_new rfl)); (rintro _ _ ⟨b, rfl, rfl⟩; refine ⟨(by first | exact fun h => absurd h (by decide) | exact fun _ => hsq), ?_⟩)) | (apply drnI_s 1 _; (focus rfl); (focus exact wt); (focus rfl); (focus (exact opr_call_ls (by rfl) (B0 ..) (by rfl) lpa)); (rintro _ _ ⟨rfl, rfl⟩; refine ⟨(by first | exact fun h => absurd h (by decide) | exact fun _ => hsq), ?_⟩))))
        all_goals
          (refine run_os wt rfl (opr_call_l rfl (R0) rfl (by exact lpa)) ?_; rintro _ _ ⟨_, ⟨q9, c9, rfl, rfl⟩, rfl⟩; dsimp only [List.cons_append, List.nil_append])
          (repeat' (first | (apply run_qg 1; (focus rfl); (focus exact wt); (focus rfl); (focus (exact qg1))) | refine cod_seq ?_ | refine run_nil ?_ | refine pst_then ?_ | (apply run_osg 8; (focus rfl); (focus exact wt); (focus rfl); (focus (exact opr_new rfl)); (rintro _ _ ⟨b, rfl, rfl⟩)) | (apply run_ong 9; (focus rfl); (focus exact wt); (focus (exact opr_store_box_agg rfl rfl rfl (by exact pka) rfl rfl rfl (by exact spla))); (rintro _ _ ⟨rfl, rfl⟩))))
          (refine cod_drawn_ks (Hq := [_, _, _]) [0, 4, 9] [] rfl (by kernel_rfl) (by simp only [List.length_cons, List.length_nil, Nat.reduceAdd]; rfl) ?_)
          (repeat' (first | refine cod_seq ?_ | refine pst_then ?_ | (apply cod_cond_f; (focus rfl)) | refine cod_skip ?_ | (apply drnK_take 1; (focus rfl); (focus rfl); (focus exact wt); (focus (decide +kernel)); (focus exact hsq); (focus rfl); (focus (exact qg1))) | (apply drnK_take 2; (focus rfl); (focus rfl); (focus exact wt); (focus (decide +kernel)); (focus exact hsq); (focus rfl); (focus (first | exact qg2 | exact qs2))) | (apply drnK_take 3; (focus rfl); (focus rfl); (focus exact wt); (focus (decide +kernel)); (focus exact hsq); (focus rfl); (focus (first | exact qg3 | exact qs3))) | (apply drnK_take 4; (focus rfl); (focus rfl); (focus exact wt); (focus (decide +kernel)); (focus exact hsq); (focus rfl); (focus (first | exact qg4 | exact qs4))) | (apply drnK_end; (focus (decide +kernel)))))
          (refine cod_drawn_ks (Hq := [_, _]) [0, 2] [] rfl (by kernel_rfl) (by simp only [List.length_cons, List.length_nil, Nat.reduceAdd]; rfl) ?_)
          (repeat' (first | refine pst_then ?_ | refine cod_ret ?_ | (apply drnK_take 1; (focus rfl); (focus rfl); (focus exact wt); (focus (decide +kernel)); (focus exact hsq); (focus rfl); (focus (exact qg1))) | (apply drnK_take 2; (focus rfl); (focus rfl); (focus exact wt); (focus (decide +kernel)); (focus exact hsq); (focus rfl); (focus (first | exact qg2 | exact qs2))) | (apply drnK_take 3; (focus rfl); (focus rfl); (focus exact wt); (focus (decide +kernel)); (focus exact hsq); (focus rfl); (focus (first | exact qg3 | exact qs3))) | (apply drnK_onen 9; (focus rfl); (focus rfl); (focus (decide +kernel)); (focus exact wt); (focus (exact opr_store_box_agg rfl rfl rfl (by exact pka) rfl rfl rfl (by exact spla))); (rintro _ _ ⟨rfl, rfl⟩; refine ⟨(by first | exact fun h => absurd h (by decide) | exact fun _ => hsq), ?_⟩)) | (apply drnK_end; (focus (decide +kernel)))))
          exact pst_fin rfl (by exact resa) _ (.inl ⟨bt, q9, c9, rfl, rfl, rfl⟩) (by exact hsa)
      · rw [if_neg (fun h => hgen h.2.2.2.2)]
        (refine spec_enter Try.func13 Try.ntmps13 rfl rfl fun Fr => ?_; dsimp only [List.cons_append, List.nil_append, ini, Nat.reduceAdd])
        (repeat' (first | (apply run_qg 1; (focus rfl); (focus exact wt); (focus rfl); (focus (exact qg1))) | (apply run_qg 2; (focus rfl); (focus exact wt); (focus rfl); (focus (first | exact qg2 | exact qs2))) | (apply run_qg 3; (focus rfl); (focus exact wt); (focus rfl); (focus (first | exact qg3 | exact qs3))) | (apply run_qg 4; (focus rfl); (focus exact wt); (focus rfl); (focus (first | exact qg4 | exact qs4))) | refine cod_seq ?_ | refine cod_region ?_ | refine run_nil ?_ | refine pst_then ?_ | (apply cod_cond_f; (focus rfl)) | refine cod_skip ?_ | (apply run_osg 8; (focus rfl); (focus exact wt); (focus rfl); (focus (exact opr_box_agg rfl rfl)); (rintro _ _ ⟨b, rfl, rfl⟩)) | (apply run_osg 8; (focus rfl); (focus exact wt); (focus rfl); (focus (exact opr_new rfl)); (rintro _ _ ⟨b, rfl, rfl⟩)) | (apply cod_drawn_k; (focus kernel_rfl); (focus (simp only [List.length_cons, List.length_nil, Nat.reduceAdd]; rfl))) | (apply drnK_take 1; (focus rfl); (focus rfl); (focus exact wt); (focus (decide +kernel)); (focus exact hsq); (focus rfl); (focus (exact qg1))) | (apply drnK_take 2; (focus rfl); (focus rfl); (focus exact wt); (focus (decide +kernel)); (focus exact hsq); (focus rfl); (focus (first | exact qg2 | exact qs2))) | (apply drnK_take 3; (focus rfl); (focus rfl); (focus exact wt); (focus (decide +kernel)); (focus exact hsq); (focus rfl); (focus (first | exact qg3 | exact qs3))) | (apply drnK_ones 8; (focus rfl); (focus rfl); (focus (decide +kernel)); (focus exact wt); (focus rfl); (focus (exact opr_new rfl)); (rintro _ _ ⟨b, rfl, rfl⟩; refine ⟨(by first | exact fun h => absurd h (by decide) | exact fun _ => hsq), ?_⟩)) | (apply drnK_onen 9; (focus rfl); (focus rfl); (focus (decide +kernel)); (focus exact wt); (focus (exact opr_store_box_agg rfl rfl rfl (by exact pka) rfl rfl rfl (by exact spla))); (rintro _ _ ⟨rfl, rfl⟩; refine ⟨(by first | exact fun h => absurd h (by decide) | exact fun _ => hsq), ?_⟩)) | (apply drnK_end; (focus (decide +kernel))) | (apply drnK_done; (focus (decide +kernel))) | (apply drnK_ones 7; (focus rfl); (focus rfl); (focus (decide +kernel)); (focus exact wt); (focus rfl); (focus (exact opr_call_ls (by rfl) (B0 ..) (by rfl) lpa)); (rintro _ _ ⟨rfl, rfl⟩; refine ⟨(by first | exact fun h => absurd h (by decide) | exact fun _ => hsq), ?_⟩)) | (refine drnK_at 6 ?_; refine drnK_two 10 (by decide +kernel) ?_ ?_) | (apply drnI_s 1 _; (focus rfl); (focus exact wt); (focus rfl); (focus (exact opr_new rfl)); (rintro _ _ ⟨b, rfl, rfl⟩; refine ⟨(by first | exact fun h => absurd h (by decide) | exact fun _ => hsq), ?_⟩)) | (apply drnI_s 1 _; (focus rfl); (focus exact wt); (focus rfl); (focus (exact opr_call_ls (by rfl) (B0 ..) (by rfl) lpa)); (rintro _ _ ⟨rfl, rfl⟩; refine ⟨(by first | exact fun h => absurd h (by decide) | exact fun _ => hsq), ?_⟩))))
        all_goals
          (refine run_os wt rfl (opr_call_l rfl (R0) rfl (by exact lpa)) ?_; rintro _ _ ⟨_, ⟨q9, c9, rfl, rfl⟩, rfl⟩; dsimp only [List.cons_append, List.nil_append])
          (repeat' (first | (apply run_qg 1; (focus rfl); (focus exact wt); (focus rfl); (focus (exact qg1))) | (apply run_qg 5; (focus rfl); (focus exact wt); (focus rfl); (focus (exact qg5))) | refine cod_seq ?_ | refine cod_region ?_ | refine run_nil ?_ | refine pst_then ?_ | (apply cod_cond_t; (focus rfl)) | refine cod_ret ?_ | refine pst_then_ret ?_ | (apply run_osg 8; (focus rfl); (focus exact wt); (focus rfl); (focus (exact opr_new rfl)); (rintro _ _ ⟨b, rfl, rfl⟩)) | (apply run_ong 9; (focus rfl); (focus exact wt); (focus (exact opr_store_box_agg rfl rfl rfl (by exact pka) rfl rfl rfl (by exact spla))); (rintro _ _ ⟨rfl, rfl⟩)) | (apply cod_drawn_k; (focus kernel_rfl); (focus (simp only [List.length_cons, List.length_nil, Nat.reduceAdd]; rfl))) | (apply drnK_take 1; (focus rfl); (focus rfl); (focus exact wt); (focus (decide +kernel)); (focus exact hsq); (focus rfl); (focus (exact qg1))) | (apply drnK_take 2; (focus rfl); (focus rfl); (focus exact wt); (focus (decide +kernel)); (focus exact hsq); (focus rfl); (focus (first | exact qg2 | exact qs2))) | (apply drnK_take 3; (focus rfl); (focus rfl); (focus exact wt); (focus (decide +kernel)); (focus exact hsq); (focus rfl); (focus (first | exact qg3 | exact qs3))) | (apply drnK_take 4; (focus rfl); (focus rfl); (focus exact wt); (focus (decide +kernel)); (focus exact hsq); (focus rfl); (focus (first | exact qg4 | exact qs4))) | (apply drnK_end; (focus (decide +kernel)))))
          exact pst_fin rfl (by exact resa) _ (.inr ⟨rfl, rfl, rfl⟩) (by exact hsa)
    · have R0 := read_bad (by omega) hgd
      rw [if_neg (fun h => hgd h.2.2.2.1)]
      (refine spec_enter Try.func13 Try.ntmps13 rfl rfl fun Fr => ?_; dsimp only [List.cons_append, List.nil_append, ini, Nat.reduceAdd])
      (repeat' (first | (apply run_qg 1; (focus rfl); (focus exact wt); (focus rfl); (focus (exact qg1))) | (apply run_qg 2; (focus rfl); (focus exact wt); (focus rfl); (focus (first | exact qg2 | exact qs2))) | (apply run_qg 3; (focus rfl); (focus exact wt); (focus rfl); (focus (first | exact qg3 | exact qs3))) | (apply run_qg 4; (focus rfl); (focus exact wt); (focus rfl); (focus (first | exact qg4 | exact qs4))) | refine cod_seq ?_ | refine cod_region ?_ | refine run_nil ?_ | refine pst_then ?_ | (apply cod_cond_f; (focus rfl)) | refine cod_skip ?_ | (apply run_osg 8; (focus rfl); (focus exact wt); (focus rfl); (focus (exact opr_box_agg rfl rfl)); (rintro _ _ ⟨b, rfl, rfl⟩)) | (apply run_osg 8; (focus rfl); (focus exact wt); (focus rfl); (focus (exact opr_new rfl)); (rintro _ _ ⟨b, rfl, rfl⟩)) | (apply cod_drawn_k; (focus kernel_rfl); (focus (simp only [List.length_cons, List.length_nil, Nat.reduceAdd]; rfl))) | (apply drnK_take 1; (focus rfl); (focus rfl); (focus exact wt); (focus (decide +kernel)); (focus exact hsq); (focus rfl); (focus (exact qg1))) | (apply drnK_take 2; (focus rfl); (focus rfl); (focus exact wt); (focus (decide +kernel)); (focus exact hsq); (focus rfl); (focus (first | exact qg2 | exact qs2))) | (apply drnK_take 3; (focus rfl); (focus rfl); (focus exact wt); (focus (decide +kernel)); (focus exact hsq); (focus rfl); (focus (first | exact qg3 | exact qs3))) | (apply drnK_ones 8; (focus rfl); (focus rfl); (focus (decide +kernel)); (focus exact wt); (focus rfl); (focus (exact opr_new rfl)); (rintro _ _ ⟨b, rfl, rfl⟩; refine ⟨(by first | exact fun h => absurd h (by decide) | exact fun _ => hsq), ?_⟩)) | (apply drnK_onen 9; (focus rfl); (focus rfl); (focus (decide +kernel)); (focus exact wt); (focus (exact opr_store_box_agg rfl rfl rfl (by exact pka) rfl rfl rfl (by exact spla))); (rintro _ _ ⟨rfl, rfl⟩; refine ⟨(by first | exact fun h => absurd h (by decide) | exact fun _ => hsq), ?_⟩)) | (apply drnK_end; (focus (decide +kernel))) | (apply drnK_done; (focus (decide +kernel))) | (apply drnK_ones 7; (focus rfl); (focus rfl); (focus (decide +kernel)); (focus exact wt); (focus rfl); (focus (exact opr_call_ls (by rfl) (B0 ..) (by rfl) lpa)); (rintro _ _ ⟨rfl, rfl⟩; refine ⟨(by first | exact fun h => absurd h (by decide) | exact fun _ => hsq), ?_⟩)) | (refine drnK_at 6 ?_; refine drnK_two 10 (by decide +kernel) ?_ ?_) | (apply drnI_s 1 _; (focus rfl); (focus exact wt); (focus rfl); (focus (exact opr_new rfl)); (rintro _ _ ⟨b, rfl, rfl⟩; refine ⟨(by first | exact fun h => absurd h (by decide) | exact fun _ => hsq), ?_⟩)) | (apply drnI_s 1 _; (focus rfl); (focus exact wt); (focus rfl); (focus (exact opr_call_ls (by rfl) (B0 ..) (by rfl) lpa)); (rintro _ _ ⟨rfl, rfl⟩; refine ⟨(by first | exact fun h => absurd h (by decide) | exact fun _ => hsq), ?_⟩))))
      all_goals
        (repeat' (first | (apply run_qg 1; (focus rfl); (focus exact wt); (focus rfl); (focus (exact qg1))) | (apply run_qg 5; (focus rfl); (focus exact wt); (focus rfl); (focus (exact qg5))) | refine cod_seq ?_ | refine cod_region ?_ | refine run_nil ?_ | refine pst_then ?_ | (apply cod_cond_t; (focus rfl)) | refine cod_ret ?_ | refine pst_then_ret ?_ | (apply run_osg 8; (focus rfl); (focus exact wt); (focus rfl); (focus (exact opr_new rfl)); (rintro _ _ ⟨b, rfl, rfl⟩)) | (apply run_ong 9; (focus rfl); (focus exact wt); (focus (exact opr_store_box_agg rfl rfl rfl (by exact pka) rfl rfl rfl (by exact spla))); (rintro _ _ ⟨rfl, rfl⟩)) | (apply run_osg 7; (focus rfl); (focus exact wt); (focus rfl); (focus (exact opr_call_ls (by rfl) (R0 ..) (by rfl) lpa)); (rintro _ _ ⟨rfl, rfl⟩)) | (apply cod_drawn_k; (focus kernel_rfl); (focus (simp only [List.length_cons, List.length_nil, Nat.reduceAdd]; rfl))) | (apply drnK_take 1; (focus rfl); (focus rfl); (focus exact wt); (focus (decide +kernel)); (focus exact hsq); (focus rfl); (focus (exact qg1))) | (apply drnK_take 4; (focus rfl); (focus rfl); (focus exact wt); (focus (decide +kernel)); (focus exact hsq); (focus rfl); (focus (first | exact qg4 | exact qs4))) | (apply drnK_off; (focus rfl); (focus rfl); (focus rfl); (focus (decide +kernel)); (focus exact hsq); (focus rfl)) | (apply drnK_end; (focus (decide +kernel)))))
        exact pst_fin rfl (by exact resa) _ (.inr ⟨rfl, rfl, rfl⟩) (by exact hsa)
  · rw [if_neg (fun h2 => h ⟨h2.1, h2.2.1, h2.2.2.1⟩)]
    (refine spec_enter Try.func13 Try.ntmps13 rfl rfl fun Fr => ?_; dsimp only [List.cons_append, List.nil_append, ini, Nat.reduceAdd])
    (repeat' (first | (apply run_qg 1; (focus rfl); (focus exact wt); (focus rfl); (focus (exact qg1))) | (apply run_qg 2; (focus rfl); (focus exact wt); (focus rfl); (focus (first | exact qg2 | exact qs2))) | (apply run_qg 3; (focus rfl); (focus exact wt); (focus rfl); (focus (first | exact qg3 | exact qs3))) | (apply run_qg 4; (focus rfl); (focus exact wt); (focus rfl); (focus (first | exact qg4 | exact qs4))) | (apply run_qg 5; (focus rfl); (focus exact wt); (focus rfl); (focus (exact qg5))) | refine cod_seq ?_ | refine cod_region ?_ | refine run_nil ?_ | refine pst_then ?_ | (apply cod_cond_t; (focus rfl)) | refine cod_ret ?_ | refine pst_then_ret ?_ | (apply run_osg 8; (focus rfl); (focus exact wt); (focus rfl); (focus (exact opr_box_agg rfl rfl)); (rintro _ _ ⟨b, rfl, rfl⟩)) | (apply run_osg 8; (focus rfl); (focus exact wt); (focus rfl); (focus (exact opr_new rfl)); (rintro _ _ ⟨b, rfl, rfl⟩)) | (apply run_ong 9; (focus rfl); (focus exact wt); (focus (exact opr_store_box_agg rfl rfl rfl (by exact pka) rfl rfl rfl (by exact spla))); (rintro _ _ ⟨rfl, rfl⟩)) | (apply run_offs; (focus rfl); (focus rfl); (focus rfl)) | (apply cod_drawn_k; (focus kernel_rfl); (focus (simp only [List.length_cons, List.length_nil, Nat.reduceAdd]; rfl))) | ((first | (apply run_lss; (rotate_left 2); (focus rfl)) | (apply run_leq; (rotate_left 2); (focus rfl)) | (apply run_gtr; (rotate_left 2); (focus rfl)) | (apply run_geq; (rotate_left 2); (focus rfl)) | (apply run_eql; (rotate_left 2); (focus rfl)) | (apply run_neq; (rotate_left 2); (focus rfl)) | (apply run_seq; (rotate_left 2); (focus rfl)) | (apply run_sneq; (rotate_left 2); (focus rfl))); (focus rfl); (focus rfl); (rotate_right 2); (focus exact wt); (focus rfl); (all_goals (intro h; dsimp only [upd]))) | (apply drnK_take 1; (focus rfl); (focus rfl); (focus exact wt); (focus (decide +kernel)); (focus exact hsq); (focus rfl); (focus (exact qg1))) | (apply drnK_take 2; (focus rfl); (focus rfl); (focus exact wt); (focus (decide +kernel)); (focus exact hsq); (focus rfl); (focus (first | exact qg2 | exact qs2))) | (apply drnK_take 3; (focus rfl); (focus rfl); (focus exact wt); (focus (decide +kernel)); (focus exact hsq); (focus rfl); (focus (first | exact qg3 | exact qs3))) | (apply drnK_ones 8; (focus rfl); (focus rfl); (focus (decide +kernel)); (focus exact wt); (focus rfl); (focus (exact opr_new rfl)); (rintro _ _ ⟨b, rfl, rfl⟩; refine ⟨(by first | exact fun h => absurd h (by decide) | exact fun _ => hsq), ?_⟩)) | (apply drnK_onen 9; (focus rfl); (focus rfl); (focus (decide +kernel)); (focus exact wt); (focus (exact opr_store_box_agg rfl rfl rfl (by exact pka) rfl rfl rfl (by exact spla))); (rintro _ _ ⟨rfl, rfl⟩; refine ⟨(by first | exact fun h => absurd h (by decide) | exact fun _ => hsq), ?_⟩)) | (apply drnK_end; (focus (decide +kernel))) | (apply drnK_done; (focus (decide +kernel))) | (apply drnK_ones 7; (focus rfl); (focus rfl); (focus (decide +kernel)); (focus exact wt); (focus rfl); (focus (exact opr_call_ls (by rfl) (B0 ..) (by rfl) lpa)); (rintro _ _ ⟨rfl, rfl⟩; refine ⟨(by first | exact fun h => absurd h (by decide) | exact fun _ => hsq), ?_⟩)) | (refine drnK_at 6 ?_; refine drnK_two 10 (by decide +kernel) ?_ ?_) | (apply drnI_s 1 _; (focus rfl); (focus exact wt); (focus rfl); (focus (exact opr_new rfl)); (rintro _ _ ⟨b, rfl, rfl⟩; refine ⟨(by first | exact fun h => absurd h (by decide) | exact fun _ => hsq), ?_⟩)) | (apply drnI_s 1 _; (focus rfl); (focus exact wt); (focus rfl); (focus (exact opr_call_ls (by rfl) (B0 ..) (by rfl) lpa)); (rintro _ _ ⟨rfl, rfl⟩; refine ⟨(by first | exact fun h => absurd h (by decide) | exact fun _ => hsq), ?_⟩))))
    all_goals first | (exfalso; omega) | exact pst_fin rfl (by exact resa) _ (.inr ⟨rfl, rfl, rfl⟩) (by exact hsa)
end Go.Proofs.Ytcbpeampjhegcaa.use
/-
  use.Count: what it answers, and the walk.
-/
namespace Go.Proofs.Ytcbpeampjhegcaa.use
open Go.RowKit kit sl Go.Proofs.Ytcbpeampjhegcaa.disk Go.Proofs.Ytcbpeampjhegcaa.blob Go.Proofs.Ytcbpeampjhegcaa.inode Go.Proofs.Ytcbpeampjhegcaa.imap
set_option linter.unusedVariables false
/-- a cell, and how many bytes of it are alive -/
abbrev Item := Int × Nat
def partIts (cs : Cells) (ps : Waits) (n : Int) : List (Int × Int) → Nat → Option (List Item)
  | [], _ => some []
  | p :: t, k => if p.1 = 0 then partIts cs ps n t (k + 1) else if (partF cs ps n (k : Int) p).2 = 0 then (partIts cs ps n t (k + 1)).map ((p.1, (partF cs ps n (k : Int) p).1.length) :: ·) else none
def itsOf (cs : Cells) (ps : Waits) (p : Int × Int) (g : Int) (n : Nat) : Option (List Item) :=
  if p.1 = 0 then some [] else match inoF cs ps p g (n : Int) with
  | none => none
  | some l => (partIts cs ps (n : Int) (pI l) 0).map ((p.1, l.length) :: ·)
def its (cs : Cells) (ps : Waits) : List (Int × Int) → List Int → Nat → Option (List Item)
  | p :: at', g :: gens, n => match itsOf cs ps p g n with
    | none => none
    | some a => (its cs ps at' gens (n + 1)).map (a ++ ·)
  | _, _, _ => some []
theorem its_nil (cs : Cells) (ps : Waits) (gens : List Int) (n : Nat) : its cs ps [] gens n = some [] := by cases gens <;> rfl
theorem its_nil2 (cs : Cells) (ps : Waits) (at' : List (Int × Int)) (n : Nat) : its cs ps at' [] n = some [] := by cases at' <;> rfl
theorem map_nil (o : Option (List Item)) : o = o.map (([] : List Item) ++ ·) := by cases o <;> rfl
def tot : List Item → Nat
  | [] => 0
  | x :: L => x.2 + tot L
theorem tot_app (a b : List Item) : tot (a ++ b) = tot a + tot b := by
  induction a with
  | nil => simp [tot]
  | cons x a ih => rw [List.cons_append, tot, tot, ih, Nat.add_assoc]
def addAll (F : Nat → Nat) : List Item → Nat → Nat
  | [] => F
  | x :: L => addAll (upd1 F x.1.toNat (F x.1.toNat + x.2)) L
theorem addAll_app (F : Nat → Nat) (a b : List Item) : addAll F (a ++ b) = addAll (addAll F a) b := by
  induction a generalizing F with
  | nil => rfl
  | cons x a ih => rw [List.cons_append, addAll, addAll, ih]
theorem addAll_le (L : List Item) : ∀ (F : Nat → Nat) (j : Nat), addAll F L j ≤ F j + tot L := by
  induction L with
  | nil => intro F j; exact Nat.le_refl _
  | cons x L ih =>
    intro F j
    have := ih (upd1 F x.1.toNat (F x.1.toNat + x.2)) j
    rw [addAll, tot]
    unfold upd1 at this ⊢
    split at this
    · rename_i h; subst h; omega
    · omega
theorem part_text (cs : Cells) (ps : Waits) (n k : Int) (p : Int × Int) : (partF cs ps n k p).1.length ≤ 600 := by
  unfold partF
  split
  · exact blob_text cs ps p
  · exact Nat.zero_le _
theorem ino_text {cs : Cells} {ps : Waits} {p : Int × Int} {g n : Int} {l : List UInt8} (h : inoF cs ps p g n = some l) : (blobF cs ps p).2 = 0 ∧ (blobF cs ps p).1.1 = 2 ∧ (blobF cs ps p).1.2.1 = n ∧ goodI l ∧ gI l = g ∧ (blobF cs ps p).1.2.2.2 = l ∧ l.length ≤ 600 := by
  unfold inoF at h
  split at h
  · rename_i h2
    cases h
    exact ⟨h2.1, h2.2.1, h2.2.2.1, h2.2.2.2.1, h2.2.2.2.2, rfl, blob_text cs ps p⟩
  · cases h
theorem part_ok {cs : Cells} {ps : Waits} {n k : Int} {p : Int × Int} (h : (partF cs ps n k p).2 = 0) : (blobF cs ps p).2 = 0 ∧ (blobF cs ps p).1.1 = 1 ∧ (blobF cs ps p).1.2.1 = n ∧ (blobF cs ps p).1.2.2.1 = k ∧ (partF cs ps n k p).1 = (blobF cs ps p).1.2.2.2 := by
  unfold partF at h ⊢
  split at h
  · rename_i h2
    rw [if_pos h2]
    exact ⟨h2.1, h2.2.1, h2.2.2.1, h2.2.2.2, rfl⟩
  · cases h
theorem partIts_in {cs : Cells} {ps : Waits} {n : Int} : ∀ (t : List (Int × Int)) (k : Nat) (L : List Item), partIts cs ps n t k = some L → (∀ x ∈ L, 0 ≤ x.1 ∧ x.1 < (cs.length : Int)) := by
  intro t
  induction t with
  | nil => intro k L h; rw [partIts] at h; cases h; exact fun x hx => absurd hx List.not_mem_nil
  | cons p t ih =>
    intro k L h
    rw [partIts] at h
    split at h
    · exact ih _ L h
    · split at h
      · rename_i h1 h2
        obtain ⟨L2, e1, e2⟩ := Option.map_eq_some_iff.1 h
        subst e2
        intro x hx
        rcases List.mem_cons.1 hx with rfl | hx
        · have := blob_ok (part_ok h2).1
          exact ⟨by show 0 ≤ p.1; omega, this.2.1⟩
        · exact ih _ L2 e1 x hx
      · cases h
theorem its_in {cs : Cells} {ps : Waits} : ∀ (at' : List (Int × Int)) (gens : List Int) (n : Nat) (L : List Item), its cs ps at' gens n = some L → (∀ x ∈ L, 0 ≤ x.1 ∧ x.1 < (cs.length : Int)) := by
  intro at'
  induction at' with
  | nil => intro gens n L h; rw [its_nil] at h; cases h; exact fun x hx => absurd hx List.not_mem_nil
  | cons p at' ih =>
    intro gens n L h
    cases gens with
    | nil => rw [its_nil2] at h; cases h; exact fun x hx => absurd hx List.not_mem_nil
    | cons g gens =>
      rw [its] at h
      split at h
      · cases h
      · rename_i a ha
        obtain ⟨L2, e1, e2⟩ := Option.map_eq_some_iff.1 h
        subst e2
        intro x hx
        rcases List.mem_append.1 hx with hx | hx
        · unfold itsOf at ha
          split at ha
          · cases ha; exact absurd hx List.not_mem_nil
          · split at ha
            · cases ha
            · rename_i l hl
              obtain ⟨L3, e3, e4⟩ := Option.map_eq_some_iff.1 ha
              subst e4
              rcases List.mem_cons.1 hx with rfl | hx
              · have := blob_ok (ino_text hl).1
                exact ⟨by show 0 ≤ p.1; omega, this.2.1⟩
              · exact partIts_in _ _ L3 e3 x hx
        · exact ih gens _ L2 e1 x hx
theorem its_step {cs : Cells} {ps : Waits} {at' : List (Int × Int)} {gens : List Int} {i : Nat} {p : Int × Int} {g : Int} (hp : at'[i]? = some p) (hg : gens[i]? = some g) :
    its cs ps (at'.drop i) (gens.drop i) i = match itsOf cs ps p g i with | none => none | some a => (its cs ps (at'.drop (i + 1)) (gens.drop (i + 1)) (i + 1)).map (a ++ ·) := by
  obtain ⟨h1, e1⟩ := List.getElem?_eq_some_iff.1 hp
  obtain ⟨h2, e2⟩ := List.getElem?_eq_some_iff.1 hg
  rw [List.drop_eq_getElem_cons h1, List.drop_eq_getElem_cons h2, e1, e2, its]
theorem parts_step {cs : Cells} {ps : Waits} {n : Int} {t : List (Int × Int)} {k : Nat} {p : Int × Int} (hp : t[k]? = some p) :
    partIts cs ps n (t.drop k) k = if p.1 = 0 then partIts cs ps n (t.drop (k + 1)) (k + 1) else if (partF cs ps n (k : Int) p).2 = 0 then (partIts cs ps n (t.drop (k + 1)) (k + 1)).map ((p.1, (partF cs ps n (k : Int) p).1.length) :: ·) else none := by
  obtain ⟨h1, e1⟩ := List.getElem?_eq_some_iff.1 hp
  rw [List.drop_eq_getElem_cons h1, e1, partIts]
theorem map_app {D a : List Item} {o : Option (List Item)} : (o.map (a ++ ·)).map (D ++ ·) = o.map ((D ++ a) ++ ·) := by
  cases o with
  | none => rfl
  | some x => simp
/-- what Count answers -/
def CntOk (cs : Cells) (ps : Waits) (at' : List (Int × Int)) (gens : List Int) (L : List Item) : Prop := disk.Good cs ps ∧ GoodM at' gens ∧ its cs ps at' gens 0 = some L
def CountR (cs : Cells) (ps : Waits) (at' : List (Int × Int)) (gens : List Int) (v : Value) (H' : List Ent) : Prop :=
  (∃ L q, CntOk cs ps at' gens L ∧ v = .tuple #[.slice q cs.length cs.length, .int .i64 0] ∧ H' = [own (.slice q cs.length cs.length) 3 1 cs.length (flat fI (rowN cs.length (addAll (fun _ => 0) L)))]) ∨
  ((¬ ∃ L, CntOk cs ps at' gens L) ∧ ∃ e : Int, e ≠ 0 ∧ v = .tuple #[.slice none 0 0, .int .i64 e] ∧ H' = [])
instance {cs : Cells} {ps : Waits} {at' : List (Int × Int)} {gens : List Int} : Xcl (CountR cs ps at' gens) := by unfold CountR; infer_instance
theorem ino_some {a w qa qg : Option Addr} {ca cw ca2 cg : Nat} {cs : Cells} {ps : Waits} {at' : List (Int × Int)} {gens : List Int} {i : Nat} {p : Int × Int} {g : Int} (hp : at'[i]? = some p) (hgi : gens[i]? = some g) (hl : at'.length ≤ 1000) (hg : disk.Good cs ps) {l : List UInt8} (h : inoF cs ps p g (i : Int) = some l) :
    Ct Try.prog 13 [.agg #[.slice a cs.length ca, .slice w ps.length cw], .agg #[.slice qa at'.length ca2, .slice qg gens.length cg], .int .i64 (i : Int)] [sl 1 (.slice a cs.length ca) (cs.map fS), sl 2 (.slice w ps.length cw) (ps.map fP), sl 2 (.slice qa at'.length ca2) (at'.map fII), sl 1 (.slice qg gens.length cg) (gens.map fI)]
      fun v H' => ∃ q c, v = .tuple #[.agg #[.int .i64 (kI l), .int .i64 (gI l), .int .i64 (zI l), .slice q (pI l).length c], .string (str l), .int .i64 0] ∧ H' = [own (.slice q (pI l).length c) 38 2 (pI l).length (flat fII (pI l))] :=
  ct_mono (inode_any a w qa qg ca cw ca2 cg cs ps at' gens i p g hp hgi hl hg) fun v H' h2 => by
    rcases h2 with ⟨l', q, c, e, h3, h4⟩ | ⟨e, _⟩
    · rw [h] at e; cases e; exact ⟨q, c, h3, h4⟩
    · rw [h] at e; cases e
theorem ino_none {a w qa qg : Option Addr} {ca cw ca2 cg : Nat} {cs : Cells} {ps : Waits} {at' : List (Int × Int)} {gens : List Int} {i : Nat} {p : Int × Int} {g : Int} (hp : at'[i]? = some p) (hgi : gens[i]? = some g) (hl : at'.length ≤ 1000) (hg : disk.Good cs ps) (h : inoF cs ps p g (i : Int) = none) :
    Ct Try.prog 13 [.agg #[.slice a cs.length ca, .slice w ps.length cw], .agg #[.slice qa at'.length ca2, .slice qg gens.length cg], .int .i64 (i : Int)] [sl 1 (.slice a cs.length ca) (cs.map fS), sl 2 (.slice w ps.length cw) (ps.map fP), sl 2 (.slice qa at'.length ca2) (at'.map fII), sl 1 (.slice qg gens.length cg) (gens.map fI)]
      fun v H' => v = .tuple #[.agg #[.int .i64 0, .int .i64 0, .int .i64 0, .slice none 0 0], .string (str []), .int .i64 18] ∧ H' = [] :=
  ct_mono (inode_any a w qa qg ca cw ca2 cg cs ps at' gens i p g hp hgi hl hg) fun v H' h2 => by
    rcases h2 with ⟨l', q, c, e, _⟩ | ⟨_, h3⟩
    · rw [h] at e; cases e
    · exact h3
attribute [local irreducible] box own sl old bptr eptr Qt Opr Run Cod Pst Drn
set_option maxRecDepth 100000 in
set_option maxHeartbeats 8000000 in
theorem count_any (a w qa qg : Option Addr) (ca cw ca2 cg : Nat) (cs : Cells) (ps : Waits) (at' : List (Int × Int)) (gens : List Int) (hc : cs.length ≤ maxLen) (hp : ps.length ≤ maxLen) (hw : WfM at' gens) :
    Ct Try.prog 4 [.agg #[.slice a cs.length ca, .slice w ps.length cw], .agg #[.slice qa at'.length ca2, .slice qg gens.length cg]] [sl 1 (.slice a cs.length ca) (cs.map fS), sl 2 (.slice w ps.length cw) (ps.map fP), sl 2 (.slice qa at'.length ca2) (at'.map fII), sl 1 (.slice qg gens.length cg) (gens.map fI)] (CountR cs ps at' gens) := by
  have C0 := check_any a w ca cw cs ps hc hp
  by_cases hd : checkD cs ps = 0
  · have hgd := good_of hd
    rw [hd] at C0
    by_cases hm : GoodM at' gens
    · have M0 := check_good (.slice qa at'.length ca2) (.slice qg gens.length cg) hw hm
      obtain ⟨ha48, hg48, _⟩ := id hm
      obtain ⟨N, hN⟩ : ∃ N, cs.length = N := ⟨_, rfl⟩
      have hn1 := hgd.n1
      have PT := fun n k p => part_any a w ca cw cs ps n k p hgd
      have bad : ∀ e : Int, e ≠ 0 → its cs ps at' gens 0 = none → CountR cs ps at' gens (.tuple #[.slice none 0 0, .int .i64 e]) [] := fun e he h => .inr ⟨fun ⟨L, h2⟩ => (by rw [h2.2.2] at h; cases h), e, he, rfl, rfl⟩
      have good : ∀ L q, its cs ps at' gens 0 = some L → CountR cs ps at' gens (.tuple #[.slice q N N, .int .i64 0]) [own (.slice q N N) 3 1 N (flat fI (rowN N (addAll (fun _ => 0) L)))] := fun L q h => .inl ⟨L, q, ⟨hgd, hm, h⟩, by rw [hN], by rw [hN]⟩
      (refine spec_enter Try.func4 Try.ntmps4 rfl rfl fun Fr => ?_; dsimp only [List.cons_append, List.nil_append, ini, Nat.reduceAdd])
      (repeat' (first | (apply run_qg 1; (focus rfl); (focus exact wt); (focus rfl); (focus (exact qg1))) | (apply run_qg 2; (focus rfl); (focus exact wt); (focus rfl); (focus (first | exact qg2 | exact qs2))) | (apply run_qg 3; (focus rfl); (focus exact wt); (focus rfl); (focus (first | exact qg3 | exact qs3))) | (apply run_qg 4; (focus rfl); (focus exact wt); (focus rfl); (focus (first | exact qg4 | exact qs4))) | (apply run_qg 6; (focus rfl); (focus exact wt); (focus rfl); (focus (first | exact qs6 | exact qg6 | exact q_max rfl rfl rfl | exact q_sliceData rfl rfl (by omega) | exact q_sliceDataN rfl rfl | exact q_unsafeStringN rfl rfl rfl | exact q_cap_slice rfl rfl))) | refine cod_seq ?_ | refine cod_region ?_ | refine run_nil ?_ | refine pst_then ?_ | (apply cod_cond_f; (focus rfl)) | refine cod_skip ?_ | (apply run_osg 8; (focus rfl); (focus exact wt); (focus rfl); (focus (exact opr_box_agg rfl rfl)); (rintro _ _ ⟨b, rfl, rfl⟩)) | (apply run_osg 7; (focus rfl); (focus exact wt); (focus rfl); (focus (exact opr_call_ls (by rfl) (C0 ..) (by rfl) lpa)); (rintro _ _ ⟨rfl, rfl⟩)) | (apply run_osg 7; (focus rfl); (focus exact wt); (focus rfl); (focus (exact opr_call_ls (by rfl) (M0 ..) (by rfl) lpa)); (rintro _ _ ⟨rfl, rfl⟩))))
      refine run_os wt rfl (opr_make (fI) (0) (c := N) rfl rfl rfl (by first | rfl | omega) (by first | rfl | omega) rfl rfl (by omega) (by (unfold maxLen); omega)) ?_
      rintro _ _ ⟨q1, rfl, rfl⟩
      rw [rowN_zero]
      (repeat' (first | (apply run_qg 1; (focus rfl); (focus exact wt); (focus rfl); (focus (exact qg1))) | (apply run_qg 2; (focus rfl); (focus exact wt); (focus rfl); (focus (first | exact qg2 | exact qs2))) | (apply run_qg 3; (focus rfl); (focus exact wt); (focus rfl); (focus (first | exact qg3 | exact qs3))) | (apply run_qg 6; (focus rfl); (focus exact wt); (focus rfl); (focus (first | exact qs6 | exact qg6 | exact q_max rfl rfl rfl | exact q_sliceData rfl rfl (by omega) | exact q_sliceDataN rfl rfl | exact q_unsafeStringN rfl rfl rfl | exact q_cap_slice rfl rfl))) | refine cod_seq ?_ | refine cod_region ?_ | refine run_nil ?_ | refine pst_then ?_ | refine cod_block ?_))
      (refine cod_loop_rw (σ := Nat × List Item) (fun x => (x.1 ≤ 48 ∧ tot x.2 ≤ 400000 * x.1) ∧ its cs ps at' gens 0 = (its cs ps (at'.drop x.1) (gens.drop x.1) x.1).map (x.2 ++ ·)) (fun x => [(35, .int .i64 (x.1 : Int))]) (fun x => [own (.slice q1 N N) 3 1 N (flat fI (rowN N (addAll (fun _ => 0) x.2)))]) _ (fun x => 48 - x.1) ((0, [])) (by exact ⟨⟨Nat.zero_le _, Nat.zero_le _⟩, map_nil (its cs ps at' gens 0)⟩) (by exact fsa) (by (first | exact HSub.of_picks_rest (by exact pca))) (fun ⟨i, D⟩ ⟨⟨hi, hD⟩, hits⟩ => ?_); dsimp only [List.cons_append, List.nil_append])
      dsimp only at hi hD hits ⊢
      rcases Nat.lt_or_ge i 48 with hlt | hge
      · obtain ⟨⟨px, py⟩, hpi⟩ : ∃ p, at'[i]? = some p := ⟨_, List.getElem?_eq_getElem (by omega)⟩
        obtain ⟨g, hgi⟩ : ∃ g, gens[i]? = some g := ⟨_, List.getElem?_eq_getElem (by omega)⟩
        rw [its_step hpi hgi] at hits
        unfold itsOf at hits
        by_cases hp0 : px = 0
        · subst hp0
          rw [if_pos rfl] at hits
          dsimp only at hits
          rw [map_app, List.append_nil] at hits
          (repeat' (first | (apply run_qg 1; (focus rfl); (focus exact wt); (focus rfl); (focus (exact qg1))) | (apply run_qg 2; (focus rfl); (focus exact wt); (focus rfl); (focus (first | exact qg2 | exact qs2))) | (apply run_qg 3; (focus rfl); (focus exact wt); (focus rfl); (focus (first | exact qg3 | exact qs3))) | (apply run_qg 4; (focus rfl); (focus exact wt); (focus rfl); (focus (first | exact qg4 | exact qs4))) | refine cod_seq ?_ | refine cod_region ?_ | refine run_nil ?_ | refine pst_then ?_ | (apply cod_cond_t; (focus rfl)) | refine cod_block ?_ | refine cod_exit ?_ | refine cod_skip ?_ | refine pst_block_here ?_ | refine pst_then_exit ?_ | (apply run_osg 8; (focus rfl); (focus exact wt); (focus rfl); (focus (exact opr_new rfl)); (rintro _ _ ⟨b, rfl, rfl⟩)) | (apply run_ong 9; (focus rfl); (focus exact wt); (focus (exact opr_store_box_agg rfl rfl rfl (by exact pka) rfl rfl rfl (by exact spla))); (rintro _ _ ⟨rfl, rfl⟩))))
          refine pst_again ((i + 1, D)) ?_ (FSub.of (by (try dsimp only); exact fsa)) (by (try dsimp only); exact hsa) ?_
          · exact ⟨⟨by dsimp only; omega, by dsimp only; omega⟩, hits⟩
          · dsimp only; omega
        · rw [if_neg hp0] at hits
          cases hino : inoF cs ps (px, py) g (i : Int) with
          | none =>
            have I0 := ino_none (a := a) (w := w) (qa := qa) (qg := qg) (ca := ca) (cw := cw) (ca2 := ca2) (cg := cg) hpi hgi (by omega) hgd hino
            rw [hino] at hits
            (repeat' (first | (apply run_qg 1; (focus rfl); (focus exact wt); (focus rfl); (focus (exact qg1))) | (apply run_qg 2; (focus rfl); (focus exact wt); (focus rfl); (focus (first | exact qg2 | exact qs2))) | (apply run_qg 3; (focus rfl); (focus exact wt); (focus rfl); (focus (first | exact qg3 | exact qs3))) | (apply run_qg 4; (focus rfl); (focus exact wt); (focus rfl); (focus (first | exact qg4 | exact qs4))) | refine cod_seq ?_ | refine cod_region ?_ | refine run_nil ?_ | refine pst_then ?_ | (apply cod_cond_t; (focus rfl)) | (apply cod_cond_f; (focus rfl)) | refine cod_block ?_ | refine cod_ret ?_ | refine cod_skip ?_ | refine pst_block_ret ?_ | refine pst_then_ret ?_ | (apply run_osg 8; (focus rfl); (focus exact wt); (focus rfl); (focus (exact opr_new rfl)); (rintro _ _ ⟨b, rfl, rfl⟩)) | (apply run_ong 9; (focus rfl); (focus exact wt); (focus (exact opr_store_box_agg rfl rfl rfl (by exact pka) rfl rfl rfl (by exact spla))); (rintro _ _ ⟨rfl, rfl⟩)) | (apply run_osg 7; (focus rfl); (focus exact wt); (focus rfl); (focus (exact opr_call_ls (by rfl) (I0 ..) (by rfl) lpa)); (rintro _ _ ⟨rfl, rfl⟩))))
            exact pst_fin rfl (by exact resa) _ (bad 18 (by decide) hits) (by exact hsa)
          | some l =>
            have I0 := ino_some (a := a) (w := w) (qa := qa) (qg := qg) (ca := ca) (cw := cw) (ca2 := ca2) (cg := cg) hpi hgi (by omega) hgd hino
            rw [hino] at hits
            dsimp only at hits
            obtain ⟨t1, t2, t3, t4, t5, t6, t7⟩ := ino_text hino
            have hbk := blob_ok t1
            dsimp only at hbk
            obtain ⟨c, rfl⟩ := Int.eq_ofNat_of_zero_le (by omega : 0 ≤ px)
            have hcN : c < N := by omega
            have hpl : (pI l).length ≤ 600 := prs_len 600 _ (by rw [List.length_drop]; omega)
            obtain ⟨F, hF⟩ : ∃ F, addAll (fun _ => 0) D = F := ⟨_, rfl⟩
            have hFc : F c ≤ 400000 * i := by rw [← hF]; have := addAll_le D (fun _ => 0) c; omega
            rw [hF]
            have gR : (rowN N F)[c]? = some ((F c : Nat) : Int) := rowN_at _ hcN
            have hsum : ((F c : Nat) : Int) + (l.length : Int) = ((F c + l.length : Nat) : Int) := by omega
            have hF2 : upd1 F c (F c + l.length) = addAll (fun _ => 0) (D ++ [((c : Int), l.length)]) := by rw [addAll_app, hF]; rfl
            (repeat' (first | (apply run_qg 1; (focus rfl); (focus exact wt); (focus rfl); (focus (exact qg1))) | (apply run_qg 2; (focus rfl); (focus exact wt); (focus rfl); (focus (first | exact qg2 | exact qs2))) | (apply run_qg 3; (focus rfl); (focus exact wt); (focus rfl); (focus (first | exact qg3 | exact qs3))) | (apply run_qg 4; (focus rfl); (focus exact wt); (focus rfl); (focus (first | exact qg4 | exact qs4))) | refine cod_seq ?_ | refine cod_region ?_ | refine run_nil ?_ | refine pst_then ?_ | (apply cod_cond_t; (focus rfl)) | (apply cod_cond_f; (focus rfl)) | refine cod_block ?_ | refine cod_skip ?_ | (apply run_osg 8; (focus rfl); (focus exact wt); (focus rfl); (focus (exact opr_new rfl)); (rintro _ _ ⟨b, rfl, rfl⟩)) | (apply run_ong 9; (focus rfl); (focus exact wt); (focus (exact opr_store_box_agg rfl rfl rfl (by exact pka) rfl rfl rfl (by exact spla))); (rintro _ _ ⟨rfl, rfl⟩))))
            (refine run_os wt rfl (opr_call_l rfl (I0) rfl (by exact lpa)) ?_; rintro _ _ ⟨_, ⟨q9, c9, rfl, rfl⟩, rfl⟩; dsimp only [List.cons_append, List.nil_append])
            (repeat' (first | (apply run_qg 1; (focus rfl); (focus exact wt); (focus rfl); (focus (exact qg1))) | (apply run_qg 2; (focus rfl); (focus exact wt); (focus rfl); (focus (first | exact qg2 | exact qs2))) | (apply run_qg 3; (focus rfl); (focus exact wt); (focus rfl); (focus (first | exact qg3 | exact qs3))) | (apply run_qg 4; (focus rfl); (focus exact wt); (focus rfl); (focus (first | exact qg4 | exact qs4))) | (apply run_qg 6; (focus rfl); (focus exact wt); (focus rfl); (focus (first | exact qs6 | exact qg6 | exact q_max rfl rfl rfl | exact q_sliceData rfl rfl (by omega) | exact q_sliceDataN rfl rfl | exact q_unsafeStringN rfl rfl rfl | exact q_cap_slice rfl rfl))) | refine cod_seq ?_ | refine cod_region ?_ | refine run_nil ?_ | refine pst_then ?_ | (apply cod_cond_f; (focus rfl)) | refine cod_skip ?_ | (apply run_osg 8; (focus rfl); (focus exact wt); (focus rfl); (focus (exact opr_new rfl)); (rintro _ _ ⟨b, rfl, rfl⟩)) | (apply run_ong 9; (focus rfl); (focus exact wt); (focus (exact opr_store_box_agg rfl rfl rfl (by exact pka) rfl rfl rfl (by exact spla))); (rintro _ _ ⟨rfl, rfl⟩))))
            rw [hsum]
            (refine run_on wt (opr_store_ownm (f := fI) (q' := ((F c + l.length : Nat) : Int)) rfl rfl rfl rfl (by exact pka) rfl (by omega) (by intro _; rfl) (by assumption) rfl rfl (by rfl)) ?_; rintro _ _ ⟨rfl, rfl⟩)
            rw [rowN_set _ _ hcN, hF2]
            (repeat' (first | (apply run_qg 1; (focus rfl); (focus exact wt); (focus rfl); (focus (exact qg1))) | (apply run_qg 2; (focus rfl); (focus exact wt); (focus rfl); (focus (first | exact qg2 | exact qs2))) | (apply run_qg 3; (focus rfl); (focus exact wt); (focus rfl); (focus (first | exact qg3 | exact qs3))) | (apply run_qg 6; (focus rfl); (focus exact wt); (focus rfl); (focus (first | exact qs6 | exact qg6 | exact q_max rfl rfl rfl | exact q_sliceData rfl rfl (by omega) | exact q_sliceDataN rfl rfl | exact q_unsafeStringN rfl rfl rfl | exact q_cap_slice rfl rfl))) | refine cod_seq ?_ | refine cod_region ?_ | refine run_nil ?_ | refine pst_then ?_ | refine cod_block ?_))
            rw [show D ++ [((c : Int), l.length)] = D ++ [((c : Int), l.length)] ++ [] from (List.append_nil _).symm]
            (refine cod_loop_rw (σ := Nat × List Item) (fun x => (x.1 ≤ (pI l).length ∧ tot x.2 ≤ 600 * x.1) ∧ partIts cs ps (i : Int) (pI l) 0 = (partIts cs ps (i : Int) ((pI l).drop x.1) x.1).map (x.2 ++ ·)) (fun x => [(66, .int .i64 (x.1 : Int))]) (fun x => [own (.slice q1 N N) 3 1 N (flat fI (rowN N (addAll (fun _ => 0) (D ++ [((c : Int), l.length)] ++ x.2))))]) _ (fun x => (pI l).length - x.1) ((0, [])) (by exact ⟨⟨Nat.zero_le _, Nat.zero_le _⟩, map_nil (partIts cs ps (i : Int) (pI l) 0)⟩) (by exact fsa) (by (first | exact HSub.of_picks_rest (by exact pca))) (fun ⟨k, D2⟩ ⟨⟨hk, hD2⟩, hpart⟩ => ?_); dsimp only [List.cons_append, List.nil_append])
            dsimp only at hk hD2 hpart ⊢
            rcases Nat.lt_or_ge k (pI l).length with hltk | hgek
            · obtain ⟨⟨ux, uy⟩, hu⟩ : ∃ p, (pI l)[k]? = some p := ⟨_, List.getElem?_eq_getElem hltk⟩
              rw [parts_step hu] at hpart
              have P0 := PT (i : Int) (k : Int) (ux, uy)
              by_cases hu0 : ux = 0
              · subst hu0
                rw [if_pos rfl] at hpart
                (repeat' (first | (apply run_qg 1; (focus rfl); (focus exact wt); (focus rfl); (focus (exact qg1))) | (apply run_qg 2; (focus rfl); (focus exact wt); (focus rfl); (focus (first | exact qg2 | exact qs2))) | (apply run_qg 3; (focus rfl); (focus exact wt); (focus rfl); (focus (first | exact qg3 | exact qs3))) | (apply run_qg 4; (focus rfl); (focus exact wt); (focus rfl); (focus (first | exact qg4 | exact qs4))) | refine cod_seq ?_ | refine cod_region ?_ | refine run_nil ?_ | refine pst_then ?_ | (apply cod_cond_t; (focus rfl)) | refine cod_block ?_ | refine cod_exit ?_ | refine cod_skip ?_ | refine pst_block_here ?_ | refine pst_then_exit ?_ | (apply run_osg 8; (focus rfl); (focus exact wt); (focus rfl); (focus (exact opr_new rfl)); (rintro _ _ ⟨b, rfl, rfl⟩)) | (apply run_ong 9; (focus rfl); (focus exact wt); (focus (exact opr_store_box_agg rfl rfl rfl (by exact pka) rfl rfl rfl (by exact spla))); (rintro _ _ ⟨rfl, rfl⟩))))
                refine pst_again ((k + 1, D2)) ?_ (FSub.of (by (try dsimp only); exact fsa)) (by (try dsimp only); exact hsa) ?_
                · exact ⟨⟨by dsimp only; omega, by dsimp only; omega⟩, hpart⟩
                · dsimp only; omega
              · rw [if_neg hu0] at hpart
                by_cases hok : (partF cs ps (i : Int) (k : Int) (ux, uy)).2 = 0
                · rw [if_pos hok] at hpart
                  have hbk2 := blob_ok (part_ok hok).1
                  have hpt := part_text cs ps (i : Int) (k : Int) (ux, uy)
                  rw [hok] at P0
                  generalize (partF cs ps (i : Int) (k : Int) (ux, uy)).1 = pt at *
                  dsimp only at hbk2
                  obtain ⟨u, rfl⟩ := Int.eq_ofNat_of_zero_le (by omega : 0 ≤ ux)
                  have huN : u < N := by omega
                  have hp2 : partIts cs ps (i : Int) (pI l) 0 = (partIts cs ps (i : Int) ((pI l).drop (k + 1)) (k + 1)).map ((D2 ++ [((u : Int), pt.length)]) ++ ·) := by
                    rw [hpart, ← map_app]
                    rfl
                  obtain ⟨F2, hFF⟩ : ∃ F2, addAll (fun _ => 0) (D ++ [((c : Int), l.length)] ++ D2) = F2 := ⟨_, rfl⟩
                  have hFu : F2 u ≤ 400000 * i + 600 + 600 * k := by
                    rw [← hFF]
                    have := addAll_le (D ++ [((c : Int), l.length)] ++ D2) (fun _ => 0) u
                    rw [tot_app, tot_app] at this
                    have h9 : tot [((c : Int), l.length)] = l.length := rfl
                    omega
                  rw [hFF]
                  have gR2 : (rowN N F2)[u]? = some ((F2 u : Nat) : Int) := rowN_at _ huN
                  have hsum2 : ((F2 u : Nat) : Int) + (pt.length : Int) = ((F2 u + pt.length : Nat) : Int) := by omega
                  have hF3 : upd1 F2 u (F2 u + pt.length) = addAll (fun _ => 0) (D ++ [((c : Int), l.length)] ++ (D2 ++ [((u : Int), pt.length)])) := by
                    rw [← List.append_assoc, addAll_app, hFF]; rfl
                  (repeat' (first | (apply run_qg 1; (focus rfl); (focus exact wt); (focus rfl); (focus (exact qg1))) | (apply run_qg 2; (focus rfl); (focus exact wt); (focus rfl); (focus (first | exact qg2 | exact qs2))) | (apply run_qg 3; (focus rfl); (focus exact wt); (focus rfl); (focus (first | exact qg3 | exact qs3))) | (apply run_qg 4; (focus rfl); (focus exact wt); (focus rfl); (focus (first | exact qg4 | exact qs4))) | (apply run_qg 6; (focus rfl); (focus exact wt); (focus rfl); (focus (first | exact qs6 | exact qg6 | exact q_max rfl rfl rfl | exact q_sliceData rfl rfl (by omega) | exact q_sliceDataN rfl rfl | exact q_unsafeStringN rfl rfl rfl | exact q_cap_slice rfl rfl))) | refine cod_seq ?_ | refine cod_region ?_ | refine run_nil ?_ | refine pst_then ?_ | (apply cod_cond_t; (focus rfl)) | (apply cod_cond_f; (focus rfl)) | refine cod_block ?_ | refine cod_skip ?_ | (apply run_osg 8; (focus rfl); (focus exact wt); (focus rfl); (focus (exact opr_new rfl)); (rintro _ _ ⟨b, rfl, rfl⟩)) | (apply run_ong 9; (focus rfl); (focus exact wt); (focus (exact opr_store_box_agg rfl rfl rfl (by exact pka) rfl rfl rfl (by exact spla))); (rintro _ _ ⟨rfl, rfl⟩)) | (apply run_osg 7; (focus rfl); (focus exact wt); (focus rfl); (focus (exact opr_call_ls (by rfl) (P0 ..) (by rfl) lpa)); (rintro _ _ ⟨rfl, rfl⟩))))
                  rw [hsum2]
                  (refine run_on wt (opr_store_ownm (f := fI) (q' := ((F2 u + pt.length : Nat) : Int)) rfl rfl rfl rfl (by exact pka) rfl (by omega) (by intro _; rfl) (by assumption) rfl rfl (by rfl)) ?_; rintro _ _ ⟨rfl, rfl⟩)
                  rw [rowN_set _ _ huN, hF3]
                  (repeat' (first | (apply run_qg 1; (focus rfl); (focus exact wt); (focus rfl); (focus (exact qg1))) | (apply run_qg 4; (focus rfl); (focus exact wt); (focus rfl); (focus (first | exact qg4 | exact qs4))) | refine cod_region ?_ | refine run_nil ?_ | refine pst_then ?_ | refine pst_block ?_))
                  refine pst_again ((k + 1, D2 ++ [((u : Int), pt.length)])) ?_ (FSub.of (by (try dsimp only); exact fsa)) (by (try dsimp only); exact hsa) ?_
                  · refine ⟨⟨by dsimp only; omega, ?_⟩, hp2⟩
                    dsimp only
                    rw [tot_app]
                    have h9 : tot [((u : Int), pt.length)] = pt.length := rfl
                    omega
                  · dsimp only; omega
                · rw [if_neg hok] at hpart
                  rw [hpart] at hits
                  generalize (partF cs ps (i : Int) (k : Int) (ux, uy)).2 = pe at *
                  generalize (partF cs ps (i : Int) (k : Int) (ux, uy)).1 = pt at *
                  (repeat' (first | (apply run_qg 1; (focus rfl); (focus exact wt); (focus rfl); (focus (exact qg1))) | (apply run_qg 2; (focus rfl); (focus exact wt); (focus rfl); (focus (first | exact qg2 | exact qs2))) | (apply run_qg 3; (focus rfl); (focus exact wt); (focus rfl); (focus (first | exact qg3 | exact qs3))) | (apply run_qg 4; (focus rfl); (focus exact wt); (focus rfl); (focus (first | exact qg4 | exact qs4))) | refine cod_seq ?_ | refine cod_region ?_ | refine run_nil ?_ | refine pst_then ?_ | (apply cod_cond_t; (focus rfl)) | (apply cod_cond_f; (focus rfl)) | refine cod_block ?_ | refine cod_ret ?_ | refine cod_skip ?_ | refine pst_block_ret ?_ | refine pst_then_ret ?_ | (apply run_osg 8; (focus rfl); (focus exact wt); (focus rfl); (focus (exact opr_new rfl)); (rintro _ _ ⟨b, rfl, rfl⟩)) | (apply run_ong 9; (focus rfl); (focus exact wt); (focus (exact opr_store_box_agg rfl rfl rfl (by exact pka) rfl rfl rfl (by exact spla))); (rintro _ _ ⟨rfl, rfl⟩)) | (apply run_osg 7; (focus rfl); (focus exact wt); (focus rfl); (focus (exact opr_call_ls (by rfl) (P0 ..) (by rfl) lpa)); (rintro _ _ ⟨rfl, rfl⟩))))
                  exact pst_fin rfl (by exact resa) _ (bad pe hok hits) (by exact hsa)
            · have hkl : k = (pI l).length := by omega
              subst hkl
              rw [List.drop_length, partIts] at hpart
              rw [hpart] at hits
              simp only [Option.map_some, List.append_nil] at hits
              rw [map_app] at hits
              (repeat' (first | (apply run_qg 1; (focus rfl); (focus exact wt); (focus rfl); (focus (exact qg1))) | (apply run_qg 4; (focus rfl); (focus exact wt); (focus rfl); (focus (first | exact qg4 | exact qs4))) | refine cod_seq ?_ | refine cod_region ?_ | refine run_nil ?_ | refine pst_then ?_ | (apply cod_cond_f; (focus rfl)) | refine cod_exit ?_ | refine pst_block_here ?_ | refine pst_then_exit ?_ | refine pst_block ?_))
              refine pst_again ((i + 1, D ++ [((c : Int), l.length)] ++ D2)) ?_ (FSub.of (by (try dsimp only); exact fsa)) (by (try dsimp only); exact hsa) ?_
              · refine ⟨⟨by dsimp only; omega, ?_⟩, ?_⟩
                · dsimp only
                  rw [tot_app, tot_app]
                  have h9 : tot [((c : Int), l.length)] = l.length := rfl
                  omega
                · dsimp only
                  rw [hits, List.append_assoc]
                  rfl
              · dsimp only; omega
      · have hi48 : i = 48 := by omega
        subst hi48
        have e1 : at'.drop 48 = [] := List.drop_eq_nil_of_le (by omega)
        rw [e1] at hits
        have hfin : its cs ps at' gens 0 = some D := by rw [hits, its_nil]; simp
        (repeat' (first | (apply run_qg 1; (focus rfl); (focus exact wt); (focus rfl); (focus (exact qg1))) | (apply run_qg 4; (focus rfl); (focus exact wt); (focus rfl); (focus (first | exact qg4 | exact qs4))) | refine cod_seq ?_ | refine cod_region ?_ | refine run_nil ?_ | refine pst_then ?_ | (apply cod_cond_f; (focus rfl)) | refine cod_exit ?_ | refine cod_ret ?_ | refine pst_block_here ?_ | refine pst_then_exit ?_))
        exact pst_fin rfl (by exact resa) _ (good D q1 hfin) (by exact hsa)
    · have M0 := check_bad (.slice qa at'.length ca2) (.slice qg gens.length cg) hw hm
      (refine spec_enter Try.func4 Try.ntmps4 rfl rfl fun Fr => ?_; dsimp only [List.cons_append, List.nil_append, ini, Nat.reduceAdd])
      (repeat' (first | (apply run_qg 1; (focus rfl); (focus exact wt); (focus rfl); (focus (exact qg1))) | (apply run_qg 2; (focus rfl); (focus exact wt); (focus rfl); (focus (first | exact qg2 | exact qs2))) | (apply run_qg 4; (focus rfl); (focus exact wt); (focus rfl); (focus (first | exact qg4 | exact qs4))) | refine cod_seq ?_ | refine cod_region ?_ | refine run_nil ?_ | refine pst_then ?_ | (apply cod_cond_t; (focus rfl)) | (apply cod_cond_f; (focus rfl)) | refine cod_ret ?_ | refine cod_skip ?_ | refine pst_then_ret ?_ | (apply run_osg 8; (focus rfl); (focus exact wt); (focus rfl); (focus (exact opr_box_agg rfl rfl)); (rintro _ _ ⟨b, rfl, rfl⟩)) | (apply run_osg 7; (focus rfl); (focus exact wt); (focus rfl); (focus (exact opr_call_ls (by rfl) (C0 ..) (by rfl) lpa)); (rintro _ _ ⟨rfl, rfl⟩)) | (apply run_osg 7; (focus rfl); (focus exact wt); (focus rfl); (focus (exact opr_call_ls (by rfl) (M0 ..) (by rfl) lpa)); (rintro _ _ ⟨rfl, rfl⟩))))
      exact pst_fin rfl (by exact resa) _ (.inr ⟨fun ⟨L, h⟩ => hm h.2.1, 4, by decide, rfl, rfl⟩) (by exact hsa)
  · have hb : ¬ ∃ L, CntOk cs ps at' gens L := fun ⟨L, h⟩ => hd (of_good h.1)
    generalize checkD cs ps = ce at *
    (refine spec_enter Try.func4 Try.ntmps4 rfl rfl fun Fr => ?_; dsimp only [List.cons_append, List.nil_append, ini, Nat.reduceAdd])
    (repeat' (first | (apply run_qg 1; (focus rfl); (focus exact wt); (focus rfl); (focus (exact qg1))) | (apply run_qg 2; (focus rfl); (focus exact wt); (focus rfl); (focus (first | exact qg2 | exact qs2))) | (apply run_qg 4; (focus rfl); (focus exact wt); (focus rfl); (focus (first | exact qg4 | exact qs4))) | refine cod_seq ?_ | refine cod_region ?_ | refine run_nil ?_ | refine pst_then ?_ | (apply cod_cond_t; (focus rfl)) | refine cod_ret ?_ | refine pst_then_ret ?_ | (apply run_osg 8; (focus rfl); (focus exact wt); (focus rfl); (focus (exact opr_box_agg rfl rfl)); (rintro _ _ ⟨b, rfl, rfl⟩)) | (apply run_osg 7; (focus rfl); (focus exact wt); (focus rfl); (focus (exact opr_call_ls (by rfl) (C0 ..) (by rfl) lpa)); (rintro _ _ ⟨rfl, rfl⟩))))
    exact pst_fin rfl (by exact resa) _ (.inr ⟨hb, ce, hd, rfl, rfl⟩) (by exact hsa)
end Go.Proofs.Ytcbpeampjhegcaa.use
