/-
  scan.Run: what it answers, and the walk.
-/
import Derived.Test.YtkkgmgffkjeklaaScan
import Derived.Test.YtkkgmgffkjeklaaSlMapI
import Derived.Test.YtkkgmgffkjeklaaSlStr3
namespace Go.Proofs.Ytkkgmgffkjeklaa.use
open Go.RowKit kit sl Go.Proofs.Ytkkgmgffkjeklaa.seal Go.Proofs.Ytkkgmgffkjeklaa.disk Go.Proofs.Ytkkgmgffkjeklaa.blob
set_option linter.unusedVariables false
/-- a right cell of the log as the map holds it: number, cell, blobs, last; the row of its blobs -/
abbrev LRow := Int × Nat × List Blob × Bool × Option Addr × Nat
def fEn (r : LRow) : List Value := [.int .i64 (r.2.1 : Int), .slice r.2.2.2.2.1 r.2.2.1.length r.2.2.2.2.2, .bool r.2.2.2.1]
theorem one_fEn : ∀ y, ∀ u ∈ fEn y, u.oneCell' = true := fun y u h => by
  simp only [fEn, List.mem_cons, List.not_mem_nil, or_false] at h
  rcases h with rfl | rfl | rfl <;> rfl
def rowL (r : LRow) : Ent := own (.slice r.2.2.2.2.1 r.2.2.1.length r.2.2.2.2.2) 30 4 r.2.2.1.length (flat fBl r.2.2.1)
theorem rowL_x (r : LRow) : (rowL r).excl = true := rfl
def lookL (tab : List LRow) (x : Int) : Option Value := (tab.find? fun r => r.1 == x).map fun r => .agg (fEn r).toArray
def stripL (r : LRow) : Nat × Int × List Blob × Bool := (r.2.1, r.1, r.2.2.1, r.2.2.2.1)
/-- the right cells of the log from m on -/
def scanF (cs : Cells) (ps : Waits) (m : Nat) : List (Nat × Int × List Blob × Bool) := (List.range' m (cs.length - m)).filterMap fun i => (logF cs ps i).map fun t => (i, t)
theorem scan_end (cs : Cells) (ps : Waits) {m : Nat} (h : cs.length ≤ m) : scanF cs ps m = [] := by
  unfold scanF
  rw [show cs.length - m = 0 by omega]
  rfl
theorem scan_some {cs : Cells} {ps : Waits} {m : Nat} {t : Int × List Blob × Bool} (h : m < cs.length) (hl : logF cs ps m = some t) : scanF cs ps m = (m, t) :: scanF cs ps (m + 1) := by
  unfold scanF
  rw [show cs.length - m = (cs.length - (m + 1)) + 1 by omega, List.range'_succ, List.filterMap_cons, hl]
  rfl
theorem scan_none {cs : Cells} {ps : Waits} {m : Nat} (h : m < cs.length) (hl : logF cs ps m = none) : scanF cs ps m = scanF cs ps (m + 1) := by
  unfold scanF
  rw [show cs.length - m = (cs.length - (m + 1)) + 1 by omega, List.range'_succ, List.filterMap_cons, hl]
  rfl
/-- the greatest number -/
def topF (after : Int) : List LRow → Int
  | [] => after
  | r :: l => max (topF after l) r.1
/-- where the last one ends that has last -/
def wholeG : List LRow → Nat × Nat → Nat × Nat := fun l p => l.foldl (fun p r => (p.1 + 1, if r.2.2.2.1 then p.1 + 1 else p.2)) p
def wholeF (l : List LRow) : Nat := (wholeG l (0, 0)).2
theorem wholeG_fst : ∀ (l : List LRow) (p : Nat × Nat), (wholeG l p).1 = p.1 + l.length := by
  intro l
  induction l with
  | nil => intro p; rfl
  | cons r l ih =>
    intro p
    show (wholeG l _).1 = _
    rw [ih, List.length_cons]
    dsimp only
    omega
theorem whole_add (l : List LRow) (r : LRow) : wholeF (l ++ [r]) = if r.2.2.2.1 then l.length + 1 else wholeF l := by
  unfold wholeF
  have : wholeG (l ++ [r]) (0, 0) = ((wholeG l (0, 0)).1 + 1, if r.2.2.2.1 then (wholeG l (0, 0)).1 + 1 else (wholeG l (0, 0)).2) := by
    unfold wholeG
    rw [List.foldl_append]
    rfl
  rw [this]
  dsimp only
  rw [wholeG_fst, Nat.zero_add]
theorem whole_le (l : List LRow) : wholeF l ≤ l.length := by
  have : ∀ (l : List LRow) (p : Nat × Nat), p.2 ≤ p.1 → (wholeG l p).2 ≤ (wholeG l p).1 := by
    intro l
    induction l with
    | nil => intro p h; exact h
    | cons r l ih =>
      intro p h
      refine ih _ ?_
      show (if r.2.2.2.1 = true then p.1 + 1 else p.2) ≤ p.1 + 1
      split <;> omega
  have h := this l (0, 0) (Nat.le_refl _)
  rw [wholeG_fst, Nat.zero_add] at h
  exact h
/-- the log from 'after' on -/
def Chain (tab : List LRow) (after : Int) (outs : List LRow) : Prop := ∀ (k : Nat) (r : LRow), outs[k]? = some r → tab.find? (fun r => r.1 == after + 1 + (k : Int)) = some r
theorem chain_add {tab : List LRow} {after : Int} {outs : List LRow} {r : LRow} (h : Chain tab after outs) (hr : tab.find? (fun r => r.1 == after + 1 + (outs.length : Int)) = some r) : Chain tab after (outs ++ [r]) := fun k s hs => by
  rcases Nat.lt_trichotomy k outs.length with g | g | g
  · rw [List.getElem?_append_left g] at hs
    exact h k s hs
  · subst g
    rw [List.getElem?_append_right (Nat.le_refl _), Nat.sub_self] at hs
    cases hs
    exact hr
  · rw [List.getElem?_eq_none (by simp; omega)] at hs
    cases hs
theorem log_num {cs : Cells} {ps : Waits} {k : Nat} {n : Int} {zs : List Blob} {b : Bool} (h : logF cs ps k = some (n, zs, b)) : 0 ≤ n ∧ n ≤ 2147483647 := by
  unfold logF at h
  split at h
  · rename_i h2
    cases hr : readO (openB (nowL cs ps k)) with
    | none => rw [hr] at h; cases h
    | some y =>
      rw [hr] at h
      simp only [Option.map_some, Option.some.injEq, Prod.mk.injEq] at h
      obtain ⟨rfl, _⟩ := h
      have hz := (Go.Proofs.Ytkkgmgffkjeklaa.seal.openE_zero h2.1).2.2.2.2
      unfold Go.Proofs.Ytkkgmgffkjeklaa.seal.sealE at hz
      split at hz
      · cases hz
      · omega
  · cases h
def RunOk (cs : Cells) (ps : Waits) (after : Int) (tab outs : List LRow) : Prop :=
  checkD cs ps = 0 ∧ (0 ≤ after ∧ after ≤ 2147483647) ∧ tab.map stripL = scanF cs ps 2 ∧ Chain tab after outs ∧ tab.find? (fun r => r.1 == after + 1 + (outs.length : Int)) = none
def RunR (cs : Cells) (ps : Waits) (after : Int) (v : Value) (H' : List Ent) : Prop :=
  (∃ tab outs q c, RunOk cs ps after tab outs ∧ v = .tuple #[.slice q (wholeF outs) (wholeF outs), .int .i64 (topF after tab), .int .i64 0] ∧ H' = [own (.slice q outs.length c) 49 3 outs.length (flat fEn outs), bundle (tab.map rowL)]) ∨
  (¬ (checkD cs ps = 0 ∧ 0 ≤ after ∧ after ≤ 2147483647) ∧ ∃ e : Int, e ≠ 0 ∧ v = .tuple #[.slice none 0 0, .int .i64 0, .int .i64 e] ∧ H' = [])
instance {l L : List Ent} [hl : XL L] : XL (bundle l :: L) := ⟨fun g hg => by
  rcases List.mem_cons.1 hg with rfl | hg
  · rfl
  · exact hl.h g hg⟩
instance {cs : Cells} {ps : Waits} {after : Int} : Xcl (RunR cs ps after) := by unfold RunR; infer_instance
theorem ok_num {x : Int} (h1 : -9223372036854775808 ≤ x) (h2 : x ≤ 9223372036854775807) : okI x := by
  simp [okI, Lit.wf, IntKind.min, IntKind.max, IntKind.signed, IntKind.bits]
  omega
theorem look_cons (tab : List LRow) (r : LRow) : (fun x => if x = r.1 then some (.agg (fEn r).toArray) else lookL tab x) = lookL (r :: tab) := by
  funext x
  unfold lookL
  rw [List.find?_cons]
  by_cases h : x = r.1
  · rw [if_pos h, show (r.1 == x) = true by rw [h]; exact beq_self_eq_true _]
    rfl
  · rw [if_neg h, show (r.1 == x) = false by simpa using fun e => h e.symm]
theorem tab_num {cs : Cells} {ps : Waits} {m : Nat} {tab : List LRow} (h : tab.map stripL = scanF cs ps m) : ∀ r ∈ tab, 0 ≤ r.1 ∧ r.1 ≤ 2147483647 := fun r hr => by
  have : stripL r ∈ scanF cs ps m := by rw [← h]; exact List.mem_map_of_mem hr
  unfold scanF at this
  obtain ⟨i, _, hi⟩ := List.mem_filterMap.1 this
  obtain ⟨⟨n, zs, b⟩, h1, h2⟩ := Option.map_eq_some_iff.1 hi
  have h3 := log_num h1
  have : r.1 = n := by
    have := congrArg (fun t => t.2.1) h2
    exact this.symm
  rw [this]
  exact h3
theorem top_bd {after : Int} (ha : 0 ≤ after ∧ after ≤ 2147483647) : ∀ {tab : List LRow}, (∀ r ∈ tab, 0 ≤ r.1 ∧ r.1 ≤ 2147483647) → 0 ≤ topF after tab ∧ topF after tab ≤ 2147483647 := by
  intro tab
  induction tab with
  | nil => intro _; exact ha
  | cons r l ih =>
    intro h
    have h1 := ih fun s hs => h s (List.mem_cons_of_mem _ hs)
    have h2 := h r List.mem_cons_self
    show 0 ≤ max _ _ ∧ max _ _ ≤ _
    omega
attribute [local irreducible] box own sl old bptr eptr Qt Opr Run Cod Pst Drn
instance : IntK Try.prog 3 .i64 := ⟨by kernel_rfl⟩
set_option maxRecDepth 100000 in
set_option maxHeartbeats 8000000 in
theorem run_any (a w : Option Addr) (ca cw : Nat) (cs : Cells) (ps : Waits) (after : Int) (hc : cs.length ≤ maxLen) (hp : ps.length ≤ maxLen) :
    Ct Try.prog 15 [.agg #[.slice a cs.length ca, .slice w ps.length cw], .int .i64 after] [sl 1 (.slice a cs.length ca) (cs.map fS), sl 2 (.slice w ps.length cw) (ps.map fP)] (RunR cs ps after) := by
  have C0 := check_any a w ca cw cs ps hc hp
  have hone := one_fEn
  by_cases hd : checkD cs ps = 0
  · have hgd := good_of hd
    by_cases ha : 0 ≤ after ∧ after ≤ 2147483647
    · have hn1 := hgd.n1
      have R0 : ∀ tab outs, tab.map stripL = scanF cs ps 2 → Chain tab after outs → tab.find? (fun r => r.1 == after + 1 + (outs.length : Int)) = none → RunOk cs ps after tab outs := fun tab outs h1 h2 h3 => ⟨hd, ha, h1, h2, h3⟩
      rw [hd] at C0
      obtain ⟨ha0, ha1⟩ := ha
      (refine spec_enter Try.func15 Try.ntmps15 rfl rfl fun Fr => ?_; dsimp only [List.cons_append, List.nil_append, ini, Nat.reduceAdd])
      (repeat' (first | (apply run_qg 1; (focus rfl); (focus exact wt); (focus rfl); (focus (exact qg1))) | (apply run_qg 2; (focus rfl); (focus exact wt); (focus rfl); (focus (first | exact qg2 | exact qs2))) | (apply run_qg 4; (focus rfl); (focus exact wt); (focus rfl); (focus (first | exact qg4 | exact qs4))) | refine cod_seq ?_ | refine cod_region ?_ | refine run_nil ?_ | refine pst_then ?_ | (apply cod_cond_f; (focus rfl)) | refine cod_skip ?_ | (apply run_osg 8; (focus rfl); (focus exact wt); (focus rfl); (focus (exact opr_box_agg rfl rfl)); (rintro _ _ ⟨b, rfl, rfl⟩)) | (apply run_osg 7; (focus rfl); (focus exact wt); (focus rfl); (focus (exact opr_call_ls (by rfl) (C0 ..) (by rfl) lpa)); (rintro _ _ ⟨rfl, rfl⟩))))
      refine run_os wt rfl (opr_makeMapN rfl) ?_
      rintro _ _ ⟨bm, rfl, rfl⟩
      rw [show (fun _ : Int => (none : Option Value)) = lookL [] from rfl]
      (repeat' (first | (apply run_qg 1; (focus rfl); (focus exact wt); (focus rfl); (focus (exact qg1))) | (apply run_qg 2; (focus rfl); (focus exact wt); (focus rfl); (focus (first | exact qg2 | exact qs2))) | (apply run_qg 3; (focus rfl); (focus exact wt); (focus rfl); (focus (first | exact qg3 | exact qs3))) | (apply run_qg 4; (focus rfl); (focus exact wt); (focus rfl); (focus (first | exact qg4 | exact qs4))) | (apply run_qg 6; (focus rfl); (focus exact wt); (focus rfl); (focus (first | exact qs6 | exact qg6 | exact q_max rfl rfl rfl | exact q_sliceData rfl rfl (by omega) | exact q_sliceDataN rfl rfl | exact q_unsafeStringN rfl rfl rfl | exact q_cap_slice rfl rfl))) | refine cod_seq ?_ | refine cod_region ?_ | refine run_nil ?_ | refine pst_then ?_ | refine cod_block ?_))
      refine cod_heap (H' := bundle (([] : List LRow).map rowL) :: _) (bundle_nil _) ?_
      (refine cod_loop_rw (σ := Nat × Nat × List LRow) (fun x => (x.1 ≤ cs.length ∧ x.2.1 + x.1 ≤ cs.length ∧ (x.1 = cs.length ∨ 2 ≤ x.1)) ∧ x.2.2.map stripL = scanF cs ps x.1) (fun x => [(10, .int .i64 ((x.1 : Int) - 1)), (9, .int .i64 (topF after x.2.2))]) (fun x => [nmap Try.prog 3 bm x.2.1 (lookL x.2.2), bundle (x.2.2.map rowL)]) _ (fun x => x.1) ((cs.length, 0, [])) (by exact ⟨⟨Nat.le_refl _, by dsimp only; omega, .inl rfl⟩, (scan_end cs ps (Nat.le_refl _)).symm⟩) (by exact fsa) (by (first | exact HSub.of_picks_rest (by exact pca))) (fun ⟨m, cnt, tab⟩ ⟨⟨hm, hcnt, hm2⟩, htab⟩ => ?_); dsimp only [List.cons_append, List.nil_append])
      dsimp only at hm hcnt hm2 htab ⊢
      have hnum := tab_num htab
      have htop := top_bd ⟨ha0, ha1⟩ hnum
      rcases Nat.lt_or_ge 2 m with h3 | h3
      · obtain ⟨k, rfl⟩ : ∃ k, m = k + 1 := ⟨m - 1, by omega⟩
        have hk : ((k + 1 : Nat) : Int) - 1 = (k : Int) := by omega
        rw [hk]
        cases hlog : logF cs ps k with
        | none =>
          have C1 := cell_none (a := a) (w := w) (ca := ca) (cw := cw) (by omega) hgd hlog
          (repeat' (first | (apply run_qg 1; (focus rfl); (focus exact wt); (focus rfl); (focus (exact qg1))) | (apply run_qg 2; (focus rfl); (focus exact wt); (focus rfl); (focus (first | exact qg2 | exact qs2))) | (apply run_qg 4; (focus rfl); (focus exact wt); (focus rfl); (focus (first | exact qg4 | exact qs4))) | refine cod_seq ?_ | refine cod_region ?_ | refine run_nil ?_ | refine pst_then ?_ | (apply cod_cond_t; (focus rfl)) | refine cod_block ?_ | refine cod_skip ?_))
          (refine run_os wt rfl (opr_call_l rfl (C1) rfl (by exact lpa)) ?_; rintro _ _ ⟨_, ⟨n, rfl, rfl⟩, rfl⟩; dsimp only [List.cons_append, List.nil_append])
          (repeat' (first | (apply run_qg 1; (focus rfl); (focus exact wt); (focus rfl); (focus (exact qg1))) | (apply run_qg 4; (focus rfl); (focus exact wt); (focus rfl); (focus (first | exact qg4 | exact qs4))) | refine cod_seq ?_ | refine cod_region ?_ | refine run_nil ?_ | refine pst_then ?_ | (apply cod_cond_f; (focus rfl)) | refine cod_skip ?_ | refine pst_block ?_))
          refine pst_again ((k, cnt, tab)) ?_ (FSub.of (by (try dsimp only); exact fsa)) (by (try dsimp only); exact hsa) ?_
          · exact ⟨⟨by dsimp only; omega, by dsimp only; omega, .inr (by dsimp only; omega)⟩, by rw [htab, scan_none (by omega) hlog]⟩
          · dsimp only; omega
        | some t =>
          obtain ⟨n, zs, b⟩ := t
          have hnn := log_num hlog
          have C1 := cell_some (a := a) (w := w) (ca := ca) (cw := cw) (by omega) hgd hlog
          (repeat' (first | (apply run_qg 1; (focus rfl); (focus exact wt); (focus rfl); (focus (exact qg1))) | (apply run_qg 2; (focus rfl); (focus exact wt); (focus rfl); (focus (first | exact qg2 | exact qs2))) | (apply run_qg 4; (focus rfl); (focus exact wt); (focus rfl); (focus (first | exact qg4 | exact qs4))) | refine cod_seq ?_ | refine cod_region ?_ | refine run_nil ?_ | refine pst_then ?_ | (apply cod_cond_t; (focus rfl)) | refine cod_block ?_ | refine cod_skip ?_))
          (refine run_os wt rfl (opr_call_l rfl (C1) rfl (by exact lpa)) ?_; rintro _ _ ⟨_, ⟨q, c, rfl, rfl⟩, rfl⟩; dsimp only [List.cons_append, List.nil_append])
          (repeat' (first | (apply run_qg 1; (focus rfl); (focus exact wt); (focus rfl); (focus (exact qg1))) | (apply run_qg 5; (focus rfl); (focus exact wt); (focus rfl); (focus (exact qg5))) | refine cod_seq ?_ | refine cod_region ?_ | refine run_nil ?_ | refine pst_then ?_ | (apply cod_cond_t; (focus rfl))))
          refine run_on wt (opr_mapUpdateN (key := n) (u := .agg #[.int .i64 (k : Int), .slice q zs.length c, .bool b]) rfl rfl rfl rfl pka (ok_num (by omega) (by omega)) (by unfold maxLen; omega)) ?_
          rintro _ _ ⟨rfl, rfl⟩
          have e : (fun x => if x = n then some (Value.agg #[.int .i64 (k : Int), .slice q zs.length c, .bool b]) else lookL tab x) = lookL ((n, k, zs, b, q, c) :: tab) := look_cons tab (n, k, zs, b, q, c)
          rw [e]
          (repeat' (first | (apply run_qg 1; (focus rfl); (focus exact wt); (focus rfl); (focus (exact qg1))) | (apply run_qg 4; (focus rfl); (focus exact wt); (focus rfl); (focus (first | exact qg4 | exact qs4))) | (apply run_qg 6; (focus rfl); (focus exact wt); (focus rfl); (focus (first | exact qs6 | exact qg6 | exact q_max rfl rfl rfl | exact q_sliceData rfl rfl (by omega) | exact q_sliceDataN rfl rfl | exact q_unsafeStringN rfl rfl rfl | exact q_cap_slice rfl rfl))) | refine cod_region ?_ | refine run_nil ?_ | refine pst_then ?_ | refine pst_block ?_))
          refine pst_weak (FSub.refl _) (bundle_in (e := rowL (n, k, zs, b, q, c)) (l := tab.map rowL) pka pka (rowL_x _)) ?_
          refine pst_again ((k, cnt + 1, (n, k, zs, b, q, c) :: tab)) ?_ (FSub.of (by (try dsimp only); exact fsa)) (by (try dsimp only); exact hsa) ?_
          · exact ⟨⟨by dsimp only; omega, by dsimp only; omega, .inr (by dsimp only; omega)⟩, by rw [scan_some (by omega) hlog, ← htab]; rfl⟩
          · dsimp only; omega
      · have htab2 : tab.map stripL = scanF cs ps 2 := by
          rcases hm2 with h | h
          · rw [htab, h, scan_end cs ps (Nat.le_refl _), scan_end cs ps (by omega)]
          · rw [htab, show m = 2 by omega]
        have R1 := fun outs => R0 tab outs htab2
        (repeat' (first | (apply run_qg 1; (focus rfl); (focus exact wt); (focus rfl); (focus (exact qg1))) | (apply run_qg 4; (focus rfl); (focus exact wt); (focus rfl); (focus (first | exact qg4 | exact qs4))) | refine cod_seq ?_ | refine cod_region ?_ | refine run_nil ?_ | refine pst_then ?_ | (apply cod_cond_f; (focus rfl)) | refine cod_block ?_ | refine cod_exit ?_ | refine pst_block_here ?_ | refine pst_then_exit ?_))
        refine cod_heap (heap_nil _ 49 3) ?_
        have e0 : after + 1 = after + 1 + ((([] : List LRow).length : Nat) : Int) := by simp
        rw [e0]
        (refine cod_loop_rw (σ := List LRow × Option Addr × Nat × Nat) (fun x => (x.2.2.2 = wholeF x.1 ∧ after + 1 + (x.1.length : Int) ≤ 2147483648) ∧ Chain tab after x.1) (fun x => [(17, .int .i64 (after + 1 + (x.1.length : Int))), (15, .slice x.2.1 x.1.length x.2.2.1), (16, .int .i64 (x.2.2.2 : Int))]) (fun x => [own (.slice x.2.1 x.1.length x.2.2.1) 49 3 x.1.length (flat fEn x.1)]) _ (fun x => (2147483648 - (after + 1 + (x.1.length : Int))).toNat) (([], none, 0, 0)) (by exact ⟨⟨rfl, by dsimp only; rw [List.length_nil]; omega⟩, fun k r h => by cases h⟩) (by exact fsa) (by (first | exact HSub.of_picks_rest (by exact pca))) (fun ⟨outs, qo, co, wh⟩ ⟨⟨hwh, hlen⟩, hch⟩ => ?_); dsimp only [List.cons_append, List.nil_append])
        dsimp only at hwh hlen hch ⊢
        have hwl := whole_le outs
        rw [← hwh] at hwl
        cases hf : tab.find? (fun r => r.1 == after + 1 + (outs.length : Int)) with
        | none =>
          have hlk : lookL tab (after + 1 + (outs.length : Int)) = none := by unfold lookL; rw [hf]; rfl
          have hok := R1 outs hch hf
          (repeat' (first | (apply run_qg 1; (focus rfl); (focus exact wt); (focus rfl); (focus (exact qg1))) | refine cod_seq ?_ | refine cod_region ?_ | refine cod_block ?_))
          refine run_qs wt rfl (q_lookupN (v := .tuple #[.agg #[.int .i64 0, .slice none 0 0, .bool false], .bool false]) rfl rfl rfl pka (ok_num (by omega) (by omega)) (by rw [hlk])) ?_
          (repeat' (first | (apply run_qg 1; (focus rfl); (focus exact wt); (focus rfl); (focus (exact qg1))) | (apply run_qg 4; (focus rfl); (focus exact wt); (focus rfl); (focus (first | exact qg4 | exact qs4))) | refine cod_seq ?_ | refine cod_region ?_ | refine run_nil ?_ | refine pst_then ?_ | (apply cod_cond_t; (focus rfl)) | refine cod_exit ?_ | refine pst_block_here ?_ | refine pst_block_out rfl ?_ | refine pst_then_exit ?_ | (apply run_osg 8; (focus rfl); (focus exact wt); (focus rfl); (focus (exact opr_new rfl)); (rintro _ _ ⟨b, rfl, rfl⟩)) | (apply run_ong 9; (focus rfl); (focus exact wt); (focus (exact opr_store_box_agg rfl rfl rfl (by exact pka) rfl rfl rfl (by exact spla))); (rintro _ _ ⟨rfl, rfl⟩))))
          refine run_ownc (q := qo) (m := outs.length) (c := co) (e := 49) (sz := 3) (xs := flat fEn outs) pka fun hmc => ?_
          refine run_qs wt rfl (q_slice_hm (m := wh) rfl rfl rfl rfl rfl rfl (by omega)) ?_
          (repeat' (first | (apply run_qg 1; (focus rfl); (focus exact wt); (focus rfl); (focus (exact qg1))) | refine run_nil ?_ | refine pst_then ?_ | refine cod_ret ?_))
          exact pst_fin rfl (by exact resa) _ (.inl ⟨tab, outs, qo, co, hok, by rw [hwh], rfl⟩) (by exact hsa)
        | some r =>
          obtain ⟨n, k, zs, lb, lq, c⟩ := r
          have hn : n = after + 1 + (outs.length : Int) := by simpa using List.find?_some hf
          have hlk : lookL tab (after + 1 + (outs.length : Int)) = some (.agg #[.int .i64 (k : Int), .slice lq zs.length c, .bool lb]) := by unfold lookL; rw [hf]; rfl
          have hnb := hnum _ (List.mem_of_find?_eq_some hf)
          dsimp only at hnb
          have hch2 := chain_add hch hf
          have hs : after + 1 + (outs.length : Int) + 1 = after + 1 + (((outs ++ [((n, k, zs, lb, lq, c) : LRow)]).length : Nat) : Int) := by rw [List.length_append, List.length_singleton]; omega
          have hwa := whole_add outs (n, k, zs, lb, lq, c)
          dsimp only at hwa
          (repeat' (first | (apply run_qg 1; (focus rfl); (focus exact wt); (focus rfl); (focus (exact qg1))) | refine cod_seq ?_ | refine cod_region ?_ | refine cod_block ?_))
          refine run_qs wt rfl (q_lookupN (v := .tuple #[.agg #[.int .i64 (k : Int), .slice lq zs.length c, .bool lb], .bool true]) rfl rfl rfl pka (ok_num (by omega) (by omega)) (by rw [hlk])) ?_
          (repeat' (first | (apply run_qg 1; (focus rfl); (focus exact wt); (focus rfl); (focus (exact qg1))) | (apply run_qg 2; (focus rfl); (focus exact wt); (focus rfl); (focus (first | exact qg2 | exact qs2))) | (apply run_qg 4; (focus rfl); (focus exact wt); (focus rfl); (focus (first | exact qg4 | exact qs4))) | refine cod_seq ?_ | refine cod_region ?_ | refine run_nil ?_ | refine pst_then ?_ | (apply cod_cond_f; (focus rfl)) | refine cod_skip ?_ | (apply run_osg 8; (focus rfl); (focus exact wt); (focus rfl); (focus (exact opr_new rfl)); (rintro _ _ ⟨b, rfl, rfl⟩)) | (apply run_ong 9; (focus rfl); (focus exact wt); (focus (exact opr_store_box_agg rfl rfl rfl (by exact pka) rfl rfl rfl (by exact spla))); (rintro _ _ ⟨rfl, rfl⟩)) | (apply run_osg 10; (focus rfl); (focus exact wt); (focus rfl); (focus (exact opr_buildSlice rfl rfl rfl (by exact blda) rfl rfl (by decide) rfl)); (rintro _ _ ⟨q, rfl, rfl⟩))))
          refine run_os wt rfl (by first | exact opr_append_lit0 (fEn) [((n, k, zs, lb, lq, c) : LRow)] rfl rfl rfl (by exact pka) (by rfl) (by rfl) (by intro _; rfl) (by (first | exact one_fS | exact one_fI | exact one_fB | exact one_fP | exact one_fIIS | exact one_fIIIS | exact one_fII | exact one_fSI | exact one_fIIU | exact one_fY | exact one_fBl | exact one_fT | exact one_fE | assumption)) rfl (by simp only [List.length_cons, List.length_nil]; omega) (by (unfold maxLen); simp only [List.length_cons, List.length_nil]; omega) | exact opr_append_lit (fEn) [((n, k, zs, lb, lq, c) : LRow)] rfl rfl rfl (by exact pka) (by exact pka) (by rfl) (by rfl) (by first | rfl | omega) (by intro _; rfl) (by (first | exact one_fS | exact one_fI | exact one_fB | exact one_fP | exact one_fIIS | exact one_fIIIS | exact one_fII | exact one_fSI | exact one_fIIU | exact one_fY | exact one_fBl | exact one_fT | exact one_fE | assumption)) rfl (by simp only [List.length_cons, List.length_nil]; omega) (by (unfold maxLen); simp only [List.length_cons, List.length_nil]; omega)) ?_
          rintro _ _ ⟨q5, c5, rfl, rfl⟩
          cases lb with
          | true =>
            rw [if_pos rfl] at hwa
            (repeat' (first | (apply run_qg 1; (focus rfl); (focus exact wt); (focus rfl); (focus (exact qg1))) | (apply run_qg 2; (focus rfl); (focus exact wt); (focus rfl); (focus (first | exact qg2 | exact qs2))) | (apply run_qg 3; (focus rfl); (focus exact wt); (focus rfl); (focus (first | exact qg3 | exact qs3))) | (apply run_qg 4; (focus rfl); (focus exact wt); (focus rfl); (focus (first | exact qg4 | exact qs4))) | (apply run_qg 6; (focus rfl); (focus exact wt); (focus rfl); (focus (first | exact qs6 | exact qg6 | exact q_max rfl rfl rfl | exact q_sliceData rfl rfl (by omega) | exact q_sliceDataN rfl rfl | exact q_unsafeStringN rfl rfl rfl | exact q_cap_slice rfl rfl))) | refine cod_seq ?_ | refine cod_region ?_ | refine run_nil ?_ | refine pst_then ?_ | (apply cod_cond_t; (focus rfl)) | refine pst_block ?_))
            rw [hs]
            refine pst_again ((outs ++ [(n, k, zs, true, lq, c)], q5, c5, (outs ++ [((n, k, zs, true, lq, c) : LRow)]).length)) ?_ (FSub.of (by (try dsimp only); exact fsa)) (by (try dsimp only); exact hsa) ?_
            · exact ⟨⟨by dsimp only; rw [hwa, List.length_append, List.length_singleton], by dsimp only; omega⟩, hch2⟩
            · dsimp only; omega
          | false =>
            rw [if_neg (by decide)] at hwa
            (repeat' (first | (apply run_qg 1; (focus rfl); (focus exact wt); (focus rfl); (focus (exact qg1))) | (apply run_qg 2; (focus rfl); (focus exact wt); (focus rfl); (focus (first | exact qg2 | exact qs2))) | (apply run_qg 3; (focus rfl); (focus exact wt); (focus rfl); (focus (first | exact qg3 | exact qs3))) | (apply run_qg 4; (focus rfl); (focus exact wt); (focus rfl); (focus (first | exact qg4 | exact qs4))) | refine cod_seq ?_ | refine cod_region ?_ | refine run_nil ?_ | refine pst_then ?_ | (apply cod_cond_f; (focus rfl)) | refine cod_skip ?_ | refine pst_block ?_))
            rw [hs]
            refine pst_again ((outs ++ [(n, k, zs, false, lq, c)], q5, c5, wh)) ?_ (FSub.of (by (try dsimp only); exact fsa)) (by (try dsimp only); exact hsa) ?_
            · exact ⟨⟨by dsimp only; rw [hwa]; exact hwh, by dsimp only; omega⟩, hch2⟩
            · dsimp only; omega
    · (refine spec_enter Try.func15 Try.ntmps15 rfl rfl fun Fr => ?_; dsimp only [List.cons_append, List.nil_append, ini, Nat.reduceAdd])
      rw [hd] at C0
      (repeat' (first | (apply run_qg 1; (focus rfl); (focus exact wt); (focus rfl); (focus (exact qg1))) | (apply run_qg 2; (focus rfl); (focus exact wt); (focus rfl); (focus (first | exact qg2 | exact qs2))) | (apply run_qg 4; (focus rfl); (focus exact wt); (focus rfl); (focus (first | exact qg4 | exact qs4))) | refine cod_seq ?_ | refine cod_region ?_ | refine run_nil ?_ | refine pst_then ?_ | (apply cod_cond_t; (focus rfl)) | (apply cod_cond_f; (focus rfl)) | refine cod_ret ?_ | refine cod_skip ?_ | refine pst_then_ret ?_ | (apply run_osg 8; (focus rfl); (focus exact wt); (focus rfl); (focus (exact opr_box_agg rfl rfl)); (rintro _ _ ⟨b, rfl, rfl⟩)) | (apply run_offs; (focus rfl); (focus rfl); (focus rfl)) | (apply run_osg 7; (focus rfl); (focus exact wt); (focus rfl); (focus (exact opr_call_ls (by rfl) (C0 ..) (by rfl) lpa)); (rintro _ _ ⟨rfl, rfl⟩)) | ((first | (apply run_lss; (rotate_left 2); (focus rfl)) | (apply run_leq; (rotate_left 2); (focus rfl)) | (apply run_gtr; (rotate_left 2); (focus rfl)) | (apply run_geq; (rotate_left 2); (focus rfl)) | (apply run_eql; (rotate_left 2); (focus rfl)) | (apply run_neq; (rotate_left 2); (focus rfl)) | (apply run_seq; (rotate_left 2); (focus rfl)) | (apply run_sneq; (rotate_left 2); (focus rfl))); (focus rfl); (focus rfl); (rotate_right 2); (focus exact wt); (focus rfl); (all_goals (intro h; dsimp only [upd])))))
      all_goals first | (exfalso; omega) | exact pst_fin rfl (by exact resa) _ (.inr ⟨fun h => ha h.2, 1, by decide, rfl, rfl⟩) (by exact hsa)
  · generalize hcd : checkD cs ps = e at C0 hd
    (refine spec_enter Try.func15 Try.ntmps15 rfl rfl fun Fr => ?_; dsimp only [List.cons_append, List.nil_append, ini, Nat.reduceAdd])
    (repeat' (first | (apply run_qg 1; (focus rfl); (focus exact wt); (focus rfl); (focus (exact qg1))) | (apply run_qg 2; (focus rfl); (focus exact wt); (focus rfl); (focus (first | exact qg2 | exact qs2))) | (apply run_qg 4; (focus rfl); (focus exact wt); (focus rfl); (focus (first | exact qg4 | exact qs4))) | refine cod_seq ?_ | refine cod_region ?_ | refine run_nil ?_ | refine pst_then ?_ | (apply cod_cond_t; (focus rfl)) | refine cod_ret ?_ | refine pst_then_ret ?_ | (apply run_osg 8; (focus rfl); (focus exact wt); (focus rfl); (focus (exact opr_box_agg rfl rfl)); (rintro _ _ ⟨b, rfl, rfl⟩)) | (apply run_osg 7; (focus rfl); (focus exact wt); (focus rfl); (focus (exact opr_call_ls (by rfl) (C0 ..) (by rfl) lpa)); (rintro _ _ ⟨rfl, rfl⟩))))
    exact pst_fin rfl (by exact resa) _ (.inr ⟨fun h => hd (hcd ▸ h.1), e, hd, rfl, rfl⟩) (by exact hsa)
end Go.Proofs.Ytkkgmgffkjeklaa.use
