/-
  linenref.member, linenref.class: the walks.
-/
import Derived.Test.YtcbpeampjhegcaaDoorGlobAns
import Derived.Test.YtcbpeampjhegcaaDoorSlMany2
import Derived.Test.YtcbpeampjhegcaaDoorSlCut2
import Derived.Test.YtcbpeampjhegcaaDoorSlCut
namespace Go.Proofs.YtcbpeampjhegcaaDoor.glob
open Go.RowKit kit sl
set_option linter.unusedVariables false
theorem sl_from_keep {H R : List Ent} {sz N c i : Nat} {q : Option Addr} {α : Type} {f : α → List Value} {xs : List α} (p : Pick (sl sz (.slice q N c) (xs.map f)) H R) (hN : xs.length = N) (hi : i ≤ N) : HSub H (sl sz (.slice (subq q i c sz) (N - i) (c - i)) ((xs.drop i).map f) :: H) := fun w hw =>
  HeapOk.shared hw rfl (sliceAt_from (hw.1 _ p.mem) hN hi) fun b hb => ⟨_, p.mem, rfl, by
    have h1 := hb.1
    have h2 := hb.2
    refine ⟨fun e => h1 ?_, ?_⟩
    · have : xs = [] := by simpa using e
      rw [this]
      simp
    · unfold subq at h2
      split at h2
      · cases q <;> exact h2
      · cases q with
        | none => cases h2
        | some a =>
          obtain ⟨b0, off, s⟩ := a
          simp only [Option.map_some, Value.ownBlock, Addr.add] at h2 ⊢
          split at h2 <;> simpa using h2⟩
theorem q_arr {P : Program} {n : Nat} {F : Frm} {H : List Ent} {o : Oper} {T e cnt sz byE szT byT : Nat} {agg aggE : Bool} {z' zE : Value} [ht : Ty P T agg szT byT z'] [hs : Ty P e aggE sz byE zE] {parts : List (Nat × Operand)} {ps : List (Nat × Value)} {cs out : List Value} (hu : P.underlying T = some (.array cnt e)) (ho : o.op = .build T parts.toArray) (hp : evp F parts = some ps) (hz : z'.cells = cs.toArray) (hb : Bld (fun i => some (i * sz, sz)) ps cs out) : Qt P n o F H (.agg out.toArray) := fun a w ha hw => by
  have hbt : P.built T ps = some out.toArray := by
    obtain ⟨i, d, hi, hd, _, _, _, hzero⟩ := ht.info
    obtain ⟨ie, de, hie, hde, _, hsz, _, _⟩ := hs.info
    unfold Program.built
    rw [hi, hu]
    simp only [hzero, hie]
    subst hsz
    have := fill_bld hb
    rw [← hz] at this
    exact this
  have he := evp_eval ha hp
  have : (Instr.build T (parts.toArray.map fun (i, x) => (i, a.eval x))).run P w = .ok (.agg out.toArray) w := by
    apply run_build
    rw [← hbt]
    congr 1
    simpa using he
  simp only [execOp, ho, Sem.run_bind, this, Result.andThen_ok, Sem.run_pure]
def fS2 (s : Nat × Nat) : List Value := [.int .i64 (s.1 : Int), .int .i64 (s.2 : Int)]
theorem one_fS2 (s : Nat × Nat) : ∀ u ∈ fS2 s, u.oneCell' = true := by simp [fS2, Value.oneCell']
/-- what a member is: its sign and how many signs say it -/
def memN (l : List Nat) : Nat × Nat :=
  match nextS l with
  | none => (0, 0)
  | some (c, _, r) => (c, l.length - r.length)
theorem mem_nil : memN [] = (0, 0) := rfl
theorem mem_stroke : memN [92] = (0, 0) := rfl
theorem mem_quoted (d : Nat) (r : List Nat) : memN (92 :: d :: r) = (d, 2) := by
  unfold memN
  rw [show nextS (92 :: d :: r) = some (d, true, r) from rfl]
  simp only [List.length_cons]
  rw [show r.length + 1 + 1 - r.length = 2 by omega]
theorem mem_plain {x : Nat} (r : List Nat) (h : x ≠ 92) : memN (x :: r) = (x, 1) := by
  unfold memN
  rw [show nextS (x :: r) = some (x, false, r) by rw [nextS, if_neg h]]
  simp only [List.length_cons]
  rw [show r.length + 1 - r.length = 1 by omega]
attribute [local irreducible] box own sl old bptr eptr Qt Opr Run Cod Pst Drn
attribute [local irreducible] memN cmpB classF nextS rangeS
set_option maxRecDepth 100000 in
set_option maxHeartbeats 8000000 in
theorem member_any (q : Option Addr) (c : Nat) (l : List Nat) (hl : l.length ≤ 1000000) :
    Ct Tryd.prog 20 [.slice q l.length c] [sl 1 (.slice q l.length c) (l.map fN)] fun v H' => v = .tuple #[.int .i64 ((memN l).1 : Int), .int .i64 ((memN l).2 : Int)] ∧ H' = [] := by
  rcases get_or l 0 with ⟨x, hx, h0⟩ | hge
  · by_cases h92 : x = 92
    · rcases get_or l 1 with ⟨d, hd, h1⟩ | hge
      · have hm : memN l = (d, 2) := by
          match l, hx, hd with
          | a :: b :: r, hx, hd =>
            have ha : a = x := by simpa using hx
            have hb : b = d := by simpa using hd
            rw [ha, hb, h92, mem_quoted]
        rw [hm]
        (refine spec_enter Tryd.func20 Tryd.ntmps20 rfl rfl fun Fr => ?_; dsimp only [List.cons_append, List.nil_append, ini, Nat.reduceAdd])
        (repeat' (first | (apply run_qg 1; (focus rfl); (focus exact wt); (focus rfl); (focus (exact qg1))) | (apply run_qg 2; (focus rfl); (focus exact wt); (focus rfl); (focus (first | exact qg2 | exact qs2))) | (apply run_qg 3; (focus rfl); (focus exact wt); (focus rfl); (focus (first | exact qg3 | exact qs3))) | (apply run_qg 4; (focus rfl); (focus exact wt); (focus rfl); (focus (first | exact qg4 | exact qs4))) | (apply run_qg 6; (focus rfl); (focus exact wt); (focus rfl); (focus (first | exact qs6 | exact qg6 | exact q_max rfl rfl rfl | exact q_sliceData rfl rfl (by omega) | exact q_sliceDataN rfl rfl | exact q_unsafeStringN rfl rfl rfl | exact q_cap_slice rfl rfl))) | refine cod_seq ?_ | refine cod_region ?_ | refine run_nil ?_ | refine pst_then ?_ | (apply cod_cond_t; (focus rfl)) | (apply cod_cond_f; (focus rfl)) | refine cod_block ?_ | refine cod_ret ?_ | refine pst_block_ret ?_ | refine pst_then_ret ?_))
        exact pst_fin rfl (by exact resa) _ (⟨rfl, rfl⟩) (by exact hsa)
      · have h1 : l.length = 1 := by omega
        have hm : memN l = (0, 0) := by
          match l, hx, h1 with
          | [a], hx, h1 =>
            have ha : a = x := by simpa using hx
            rw [ha, h92, mem_stroke]
        rw [hm]
        (refine spec_enter Tryd.func20 Tryd.ntmps20 rfl rfl fun Fr => ?_; dsimp only [List.cons_append, List.nil_append, ini, Nat.reduceAdd])
        (repeat' (first | (apply run_qg 1; (focus rfl); (focus exact wt); (focus rfl); (focus (exact qg1))) | (apply run_qg 2; (focus rfl); (focus exact wt); (focus rfl); (focus (first | exact qg2 | exact qs2))) | (apply run_qg 3; (focus rfl); (focus exact wt); (focus rfl); (focus (first | exact qg3 | exact qs3))) | (apply run_qg 4; (focus rfl); (focus exact wt); (focus rfl); (focus (first | exact qg4 | exact qs4))) | (apply run_qg 6; (focus rfl); (focus exact wt); (focus rfl); (focus (first | exact qs6 | exact qg6 | exact q_max rfl rfl rfl | exact q_sliceData rfl rfl (by omega) | exact q_sliceDataN rfl rfl | exact q_unsafeStringN rfl rfl rfl | exact q_cap_slice rfl rfl))) | refine cod_seq ?_ | refine cod_region ?_ | refine run_nil ?_ | refine pst_then ?_ | (apply cod_cond_t; (focus rfl)) | refine cod_block ?_ | refine cod_ret ?_ | refine pst_block_ret ?_ | refine pst_then_ret ?_))
        exact pst_fin rfl (by exact resa) _ (⟨rfl, rfl⟩) (by exact hsa)
    · have hm : memN l = (x, 1) := by
        match l, hx with
        | a :: r, hx =>
          have ha : a = x := by simpa using hx
          rw [ha, mem_plain r h92]
      rw [hm]
      (refine spec_enter Tryd.func20 Tryd.ntmps20 rfl rfl fun Fr => ?_; dsimp only [List.cons_append, List.nil_append, ini, Nat.reduceAdd])
      (repeat' (first | (apply run_qg 1; (focus rfl); (focus exact wt); (focus rfl); (focus (exact qg1))) | (apply run_qg 2; (focus rfl); (focus exact wt); (focus rfl); (focus (first | exact qg2 | exact qs2))) | (apply run_qg 3; (focus rfl); (focus exact wt); (focus rfl); (focus (first | exact qg3 | exact qs3))) | (apply run_qg 4; (focus rfl); (focus exact wt); (focus rfl); (focus (first | exact qg4 | exact qs4))) | (apply run_qg 6; (focus rfl); (focus exact wt); (focus rfl); (focus (first | exact qs6 | exact qg6 | exact q_max rfl rfl rfl | exact q_sliceData rfl rfl (by omega) | exact q_sliceDataN rfl rfl | exact q_unsafeStringN rfl rfl rfl | exact q_cap_slice rfl rfl))) | refine cod_seq ?_ | refine cod_region ?_ | refine run_nil ?_ | refine pst_then ?_ | (apply cod_cond_f; (focus rfl)) | refine cod_block ?_ | refine cod_ret ?_ | refine cod_skip ?_ | refine pst_block ?_ | (apply run_offs; (focus rfl); (focus rfl); (focus rfl))))
      exact pst_fin rfl (by exact resa) _ (⟨rfl, rfl⟩) (by exact hsa)
  · have h0 : l = [] := List.length_eq_zero_iff.1 (by omega)
    subst h0
    rw [mem_nil]
    (refine spec_enter Tryd.func20 Tryd.ntmps20 rfl rfl fun Fr => ?_; dsimp only [List.cons_append, List.nil_append, ini, Nat.reduceAdd])
    (repeat' (first | (apply run_qg 1; (focus rfl); (focus exact wt); (focus rfl); (focus (exact qg1))) | (apply run_qg 4; (focus rfl); (focus exact wt); (focus rfl); (focus (first | exact qg4 | exact qs4))) | (apply run_qg 6; (focus rfl); (focus exact wt); (focus rfl); (focus (first | exact qs6 | exact qg6 | exact q_max rfl rfl rfl | exact q_sliceData rfl rfl (by omega) | exact q_sliceDataN rfl rfl | exact q_unsafeStringN rfl rfl rfl | exact q_cap_slice rfl rfl))) | refine cod_seq ?_ | refine cod_region ?_ | refine run_nil ?_ | refine pst_then ?_ | (apply cod_cond_t; (focus rfl)) | refine cod_block ?_ | refine cod_ret ?_ | refine pst_block_ret ?_ | refine pst_then_ret ?_ | (apply run_offs; (focus rfl); (focus rfl); (focus rfl)) | (apply run_offus; (focus rfl); (focus rfl); (focus rfl))))
    exact pst_fin rfl (by exact resa) _ (⟨rfl, rfl⟩) (by exact hsa)
theorem mem_none {l : List Nat} (h : nextS l = none) : memN l = (0, 0) := by unfold memN; rw [h]
theorem mem_some {l r : List Nat} {x : Nat} {b : Bool} (h : nextS l = some (x, b, r)) : memN l = (x, l.length - r.length) := by unfold memN; rw [h]
def ClsD (p : List Nat) (R : Option (List (Nat × Nat) × List Nat)) (v : Value) (H' : List Ent) : Prop :=
  ∃ nt q' n' c' ok, ∃ at' : Nat, v = .tuple #[.agg #[.bool false, .bool nt, .slice q' n' c'], .int .i64 (at' : Int), .bool ok] ∧ (match R with
    | some x => ok = true ∧ at' = p.length - x.2.length
    | none => ok = false) ∧ H' = []
theorem clsd_no (p : List Nat) (nt : Bool) (q' : Option Addr) (n' c' at' : Nat) {R : Option (List (Nat × Nat) × List Nat)} (h : R = none) : ClsD p R (.tuple #[.agg #[.bool false, .bool nt, .slice q' n' c'], .int .i64 (at' : Int), .bool false]) [] :=
  ⟨nt, q', n', c', false, at', rfl, by rw [h], rfl⟩
theorem clsd_yes (p : List Nat) (nt : Bool) (q' : Option Addr) (n' c' at' : Nat) {R : Option (List (Nat × Nat) × List Nat)} {sp : List (Nat × Nat)} {r : List Nat} (h : R = some (sp, r)) (ha : at' = p.length - r.length) : ClsD p R (.tuple #[.agg #[.bool false, .bool nt, .slice q' n' c'], .int .i64 (at' : Int), .bool true]) [] :=
  ⟨nt, q', n', c', true, at', rfl, by rw [h]; exact ⟨rfl, ha⟩, rfl⟩
theorem next_at {l : List Nat} {k x : Nat} {b : Bool} {r : List Nat} (h : nextS (l.drop k) = some (x, b, r)) : ∃ n, (1 ≤ n ∧ k + n ≤ l.length) ∧ r = l.drop (k + n) ∧ memN (l.drop k) = (x, n) := by
  obtain ⟨h1, a, ha⟩ := next_less h
  have h2 : (l.drop k).length = l.length - k := List.length_drop
  have hal : (l.drop k).length = a.length + r.length := by rw [ha, List.length_append]
  refine ⟨a.length, ⟨by omega, by omega⟩, ?_, ?_⟩
  · rw [← List.drop_drop, ha, List.drop_left]
  · rw [mem_some h, hal, Nat.add_sub_cancel]
attribute [local irreducible] ClsD
set_option maxRecDepth 100000 in
set_option maxHeartbeats 8000000 in
theorem docclass_from (q : Option Addr) (c : Nat) (p : List Nat) (hp : p.length ≤ 1000000) (h0 : 0 < p.length) (nt : Bool) (k0 : Nat) (hk0 : (nt = true ∧ p[1]? = some 33 ∧ k0 = 2) ∨ (nt = false ∧ p[1]? ≠ some 33 ∧ k0 = 1)) {R : Option (List (Nat × Nat) × List Nat)} (hR : classF (p.length - k0 + 1) (p.drop k0) [] = R) :
    Ct Tryd.prog 16 [.slice q p.length c] [sl 1 (.slice q p.length c) (p.map fN)] (ClsD p R) := by
  have hone : ∀ y, ∀ u ∈ fS2 y, u.oneCell' = true := one_fS2
  have NO := fun nt q' n' c' at' h => clsd_no p nt q' n' c' at' (R := R) h
  have YES := fun nt q' n' c' at' sp r h => clsd_yes p nt q' n' c' at' (R := R) (sp := sp) (r := r) h
  have MEM : ∀ k, k ≤ p.length → Ct Tryd.prog 20 [.slice (subq q k c 1) (p.length - k) (c - k)] [sl 1 (.slice (subq q k c 1) (p.length - k) (c - k)) ((p.drop k).map fN)] (fun v H' => v = .tuple #[.int .i64 ((memN (p.drop k)).1 : Int), .int .i64 ((memN (p.drop k)).2 : Int)] ∧ H' = []) := fun k h => by
    have := member_any (subq q k c 1) (c - k) (p.drop k) (by rw [List.length_drop]; omega)
    rwa [List.length_drop] at this
  have hk0l : k0 ≤ p.length := by
    rcases hk0 with ⟨_, h, rfl⟩ | ⟨_, _, rfl⟩
    · have := (List.getElem?_eq_some_iff.1 h).1; omega
    · omega
  refine spec_mono (R := ClsD p R) ?_ fun _ _ h => h
  generalize ClsD p R = RR at *
  (refine spec_enter Tryd.func16 Tryd.ntmps16 rfl rfl fun Fr => ?_; dsimp only [List.cons_append, List.nil_append, ini, Nat.reduceAdd])
  (repeat' (first | (apply run_qg 1; (focus rfl); (focus exact wt); (focus rfl); (focus (exact qg1))) | (apply cod_seq_nr 3; (focus rfl)) | refine cod_region ?_ | refine run_nil ?_ | refine pst_then ?_ | (apply run_osg 8; (focus rfl); (focus exact wt); (focus rfl); (focus (exact opr_new rfl)); (rintro _ _ ⟨b, rfl, rfl⟩))))
  obtain ⟨b5, hb5⟩ : ∃ x, x = b := ⟨_, rfl⟩
  subst hb5
  refine cod_cut_drop 1 (σ := Unit) (fun _ => True) (fun _ => [(6, .int .i64 (k0 : Int))]) (fun _ => [box b5 [.bool false, .bool nt, .slice none 0 0] 46]) ?_ ?_ <;> dsimp only [List.drop]
  · clear MEM hR NO YES
    rcases hk0 with ⟨rfl, h1, rfl⟩ | ⟨rfl, h1, rfl⟩
    · have h1l := (List.getElem?_eq_some_iff.1 h1).1
      (repeat' (first | (apply run_qg 1; (focus rfl); (focus exact wt); (focus rfl); (focus (exact qg1))) | (apply run_qg 2; (focus rfl); (focus exact wt); (focus rfl); (focus (first | exact qg2 | exact qs2))) | (apply run_qg 3; (focus rfl); (focus exact wt); (focus rfl); (focus (first | exact qg3 | exact qs3))) | (apply run_qg 4; (focus rfl); (focus exact wt); (focus rfl); (focus (first | exact qg4 | exact qs4))) | (apply run_qg 6; (focus rfl); (focus exact wt); (focus rfl); (focus (first | exact qs6 | exact qg6 | exact q_max rfl rfl rfl | exact q_sliceData rfl rfl (by omega) | exact q_sliceDataN rfl rfl | exact q_unsafeStringN rfl rfl rfl | exact q_cap_slice rfl rfl))) | refine cod_seq ?_ | refine cod_region ?_ | refine run_nil ?_ | refine pst_then ?_ | (apply cod_cond_t; (focus rfl)) | (apply run_ong 9; (focus rfl); (focus exact wt); (focus (exact opr_store_box_one rfl rfl rfl rfl (by exact pka) rfl (by exact seta))); (rintro _ _ ⟨rfl, rfl⟩))))
      exact pst_cut (()) (by trivial) (FSub.of fsa) hsa
    · rcases get_or p 1 with ⟨x, hx, hl⟩ | hge
      · have hx33 : ¬ ((x : Int) = 33) := fun e => h1 (by rw [hx]; congr 1; omega)
        (repeat' (first | (apply run_qg 1; (focus rfl); (focus exact wt); (focus rfl); (focus (exact qg1))) | (apply run_qg 2; (focus rfl); (focus exact wt); (focus rfl); (focus (first | exact qg2 | exact qs2))) | (apply run_qg 3; (focus rfl); (focus exact wt); (focus rfl); (focus (first | exact qg3 | exact qs3))) | (apply run_qg 4; (focus rfl); (focus exact wt); (focus rfl); (focus (first | exact qg4 | exact qs4))) | (apply run_qg 6; (focus rfl); (focus exact wt); (focus rfl); (focus (first | exact qs6 | exact qg6 | exact q_max rfl rfl rfl | exact q_sliceData rfl rfl (by omega) | exact q_sliceDataN rfl rfl | exact q_unsafeStringN rfl rfl rfl | exact q_cap_slice rfl rfl))) | refine cod_seq ?_ | refine cod_region ?_ | refine run_nil ?_ | refine pst_then ?_ | (apply cod_cond_f; (focus rfl)) | refine cod_skip ?_))
        exact pst_cut (()) (by trivial) (FSub.of fsa) hsa
      · (repeat' (first | (apply run_qg 1; (focus rfl); (focus exact wt); (focus rfl); (focus (exact qg1))) | (apply run_qg 4; (focus rfl); (focus exact wt); (focus rfl); (focus (first | exact qg4 | exact qs4))) | (apply run_qg 6; (focus rfl); (focus exact wt); (focus rfl); (focus (first | exact qs6 | exact qg6 | exact q_max rfl rfl rfl | exact q_sliceData rfl rfl (by omega) | exact q_sliceDataN rfl rfl | exact q_unsafeStringN rfl rfl rfl | exact q_cap_slice rfl rfl))) | refine cod_seq ?_ | refine cod_region ?_ | refine run_nil ?_ | refine pst_then ?_ | (apply cod_cond_f; (focus rfl)) | refine cod_skip ?_ | (apply run_offs; (focus rfl); (focus rfl); (focus rfl))))
        exact pst_cut (()) (by trivial) (FSub.of fsa) hsa
  rintro _ _
  dsimp only [List.cons_append, List.nil_append]
  clear hk0
  (repeat' (first | refine cod_seq ?_ | refine pst_then ?_ | refine cod_block ?_))
  refine cod_heap (heap_nil _ 47 2) ?_
  (refine cod_loop_rw (σ := Nat × Nat × List (Nat × Nat) × Option Addr × Nat) (fun x => (x.2.1 ≤ p.length ∧ p.length - x.2.1 < x.1) ∧ classF x.1 (p.drop x.2.1) x.2.2.1 = R ∧ x.2.2.1.length ≤ x.2.1) (fun x => [(6, .int .i64 (x.2.1 : Int))]) (fun x => [box b5 [.bool false, .bool nt, .slice x.2.2.2.1 x.2.2.1.length x.2.2.2.2] 46, own (.slice x.2.2.2.1 x.2.2.1.length x.2.2.2.2) 47 2 x.2.2.1.length (flat fS2 x.2.2.1)]) _ (fun x => x.1) ((p.length - k0 + 1, k0, [], none, 0)) (by exact ⟨⟨hk0l, Nat.lt_succ_self _⟩, hR, Nat.zero_le _⟩) (by exact fsa) (by (first | exact HSub.of_picks_rest (by exact pca))) (fun ⟨f, k, acc, q2, c2⟩ ⟨⟨hk, hf⟩, hF, hacc⟩ => ?_); dsimp only [List.cons_append, List.nil_append])
  clear hR
  dsimp only at hk hf hF hacc
  obtain ⟨f, rfl⟩ : ∃ f', f = f' + 1 := ⟨f - 1, by omega⟩
  rw [classF] at hF
  rcases get_or p k with ⟨y, hy, hlt⟩ | hge
  · by_cases h93 : y = 93
    · have hn : nextS (p.drop k) = some (93, false, p.drop (k + 1)) := by rw [drop_at hy, h93, nextS, if_neg (by decide)]
      rw [hn] at hF
      dsimp only at hF
      rw [if_pos ⟨rfl, rfl⟩] at hF
      have h93' : (y : Int) = 93 := by omega
      by_cases ha : acc = []
      · rw [if_pos ha] at hF
        subst ha
        have hl0 : ([] : List (Nat × Nat)).length = 0 := rfl
        (repeat' (first | (apply run_qg 1; (focus rfl); (focus exact wt); (focus rfl); (focus (exact qg1))) | (apply run_qg 2; (focus rfl); (focus exact wt); (focus rfl); (focus (first | exact qg2 | exact qs2))) | (apply run_qg 3; (focus rfl); (focus exact wt); (focus rfl); (focus (first | exact qg3 | exact qs3))) | (apply run_qg 4; (focus rfl); (focus exact wt); (focus rfl); (focus (first | exact qg4 | exact qs4))) | (apply run_qg 6; (focus rfl); (focus exact wt); (focus rfl); (focus (first | exact qs6 | exact qg6 | exact q_max rfl rfl rfl | exact q_sliceData rfl rfl (by omega) | exact q_sliceDataN rfl rfl | exact q_unsafeStringN rfl rfl rfl | exact q_cap_slice rfl rfl))) | (apply cod_seq_nd; (focus rfl)) | refine cod_region ?_ | refine run_nil ?_ | refine pst_then ?_ | (apply cod_cond_f; (focus rfl)) | refine cod_exit ?_ | refine pst_block_here ?_ | refine pst_then_exit ?_))
        refine cod_seq ?_
        (refine cod_drawn_ks (Hq := [_]) [0] [] rfl (by kernel_rfl) (by simp only [List.length_cons, List.length_nil, Nat.reduceAdd]; rfl) ?_)
        (repeat' (first | refine pst_then ?_ | refine cod_ret ?_ | (apply drnK_take 1; (focus rfl); (focus rfl); (focus exact wt); (focus (decide +kernel)); (focus exact hsq); (focus rfl); (focus (exact qg1))) | (apply drnK_take 2; (focus rfl); (focus rfl); (focus exact wt); (focus (decide +kernel)); (focus exact hsq); (focus rfl); (focus (first | exact qg2 | exact qs2))) | (apply drnK_take 3; (focus rfl); (focus rfl); (focus exact wt); (focus (decide +kernel)); (focus exact hsq); (focus rfl); (focus (first | exact qg3 | exact qs3))) | (apply drnK_take 4; (focus rfl); (focus rfl); (focus exact wt); (focus (decide +kernel)); (focus exact hsq); (focus rfl); (focus (first | exact qg4 | exact qs4))) | (apply drnK_take 6; (focus rfl); (focus rfl); (focus exact wt); (focus (decide +kernel)); (focus exact hsq); (focus rfl); (focus (first | exact qs6 | exact qg6 | exact q_max rfl rfl rfl | exact q_sliceData rfl rfl (by omega) | exact q_sliceDataN rfl rfl | exact q_unsafeStringN rfl rfl rfl | exact q_cap_slice rfl rfl))) | (apply drnK_onen 9; (focus rfl); (focus rfl); (focus (decide +kernel)); (focus exact wt); (focus (exact opr_store_box_agg rfl rfl rfl (by exact pka) rfl rfl rfl (by exact spla))); (rintro _ _ ⟨rfl, rfl⟩; refine ⟨(by first | exact fun h => absurd h (by decide) | exact fun _ => hsq), ?_⟩)) | (apply drnK_end; (focus (decide +kernel)))))
        exact pst_fin rfl (by exact resa) _ (NO _ _ _ _ (k + 1) hF.symm) (by exact hsa)
      · rw [if_neg ha] at hF
        have hal : 0 < acc.length := List.length_pos_iff.2 ha
        have hR2 := YES nt q2 acc.length c2 (k + 1) acc (p.drop (k + 1)) hF.symm (by rw [List.length_drop]; omega)
        clear hF ha YES NO MEM
        (repeat' (first | (apply run_qg 1; (focus rfl); (focus exact wt); (focus rfl); (focus (exact qg1))) | (apply run_qg 2; (focus rfl); (focus exact wt); (focus rfl); (focus (first | exact qg2 | exact qs2))) | (apply run_qg 3; (focus rfl); (focus exact wt); (focus rfl); (focus (first | exact qg3 | exact qs3))) | (apply run_qg 4; (focus rfl); (focus exact wt); (focus rfl); (focus (first | exact qg4 | exact qs4))) | (apply run_qg 6; (focus rfl); (focus exact wt); (focus rfl); (focus (first | exact qs6 | exact qg6 | exact q_max rfl rfl rfl | exact q_sliceData rfl rfl (by omega) | exact q_sliceDataN rfl rfl | exact q_unsafeStringN rfl rfl rfl | exact q_cap_slice rfl rfl))) | (apply cod_seq_nd; (focus rfl)) | refine cod_region ?_ | refine run_nil ?_ | refine pst_then ?_ | (apply cod_cond_f; (focus rfl)) | refine cod_exit ?_ | refine pst_block_here ?_ | refine pst_then_exit ?_))
        refine cod_seq ?_
        (refine cod_drawn_ks (Hq := [_]) [0] [] rfl (by kernel_rfl) (by simp only [List.length_cons, List.length_nil, Nat.reduceAdd]; rfl) ?_)
        (repeat' (first | refine pst_then ?_ | refine cod_ret ?_ | (apply drnK_take 1; (focus rfl); (focus rfl); (focus exact wt); (focus (decide +kernel)); (focus exact hsq); (focus rfl); (focus (exact qg1))) | (apply drnK_take 2; (focus rfl); (focus rfl); (focus exact wt); (focus (decide +kernel)); (focus exact hsq); (focus rfl); (focus (first | exact qg2 | exact qs2))) | (apply drnK_take 3; (focus rfl); (focus rfl); (focus exact wt); (focus (decide +kernel)); (focus exact hsq); (focus rfl); (focus (first | exact qg3 | exact qs3))) | (apply drnK_take 4; (focus rfl); (focus rfl); (focus exact wt); (focus (decide +kernel)); (focus exact hsq); (focus rfl); (focus (first | exact qg4 | exact qs4))) | (apply drnK_take 6; (focus rfl); (focus rfl); (focus exact wt); (focus (decide +kernel)); (focus exact hsq); (focus rfl); (focus (first | exact qs6 | exact qg6 | exact q_max rfl rfl rfl | exact q_sliceData rfl rfl (by omega) | exact q_sliceDataN rfl rfl | exact q_unsafeStringN rfl rfl rfl | exact q_cap_slice rfl rfl))) | (apply drnK_onen 9; (focus rfl); (focus rfl); (focus (decide +kernel)); (focus exact wt); (focus (exact opr_store_box_agg rfl rfl rfl (by exact pka) rfl rfl rfl (by exact spla))); (rintro _ _ ⟨rfl, rfl⟩; refine ⟨(by first | exact fun h => absurd h (by decide) | exact fun _ => hsq), ?_⟩)) | (apply drnK_end; (focus (decide +kernel)))))
        exact pst_fin rfl (by exact resa) _ (hR2) (by exact hsa)
    · have h93' : ¬ (y : Int) = 93 := by omega
      have M1 := MEM k hk
      rcases hn : nextS (p.drop k) with _ | ⟨x, pl, r⟩
      · rw [hn] at hF
        rw [mem_none hn] at M1
        (repeat' (first | (apply run_qg 1; (focus rfl); (focus exact wt); (focus rfl); (focus (exact qg1))) | (apply run_qg 2; (focus rfl); (focus exact wt); (focus rfl); (focus (first | exact qg2 | exact qs2))) | (apply run_qg 3; (focus rfl); (focus exact wt); (focus rfl); (focus (first | exact qg3 | exact qs3))) | (apply run_qg 4; (focus rfl); (focus exact wt); (focus rfl); (focus (first | exact qg4 | exact qs4))) | (apply run_qg 6; (focus rfl); (focus exact wt); (focus rfl); (focus (first | exact qs6 | exact qg6 | exact q_max rfl rfl rfl | exact q_sliceData rfl rfl (by omega) | exact q_sliceDataN rfl rfl | exact q_unsafeStringN rfl rfl rfl | exact q_cap_slice rfl rfl))) | refine cod_seq ?_ | refine cod_region ?_ | refine run_nil ?_ | refine pst_then ?_ | (apply cod_cond_t; (focus rfl)) | refine cod_block ?_ | refine cod_skip ?_))
        refine run_qg 12 rfl wt rfl (q_slice_l (i := k) rfl rfl rfl rfl hk) ?_
        refine run_heap (sl_from_keep (i := k) pka rfl hk) ?_
        (repeat' (first | (apply run_qg 1; (focus rfl); (focus exact wt); (focus rfl); (focus (exact qg1))) | (apply run_qg 4; (focus rfl); (focus exact wt); (focus rfl); (focus (first | exact qg4 | exact qs4))) | (apply run_qg 5; (focus rfl); (focus exact wt); (focus rfl); (focus (exact qg5))) | refine cod_seq ?_ | refine cod_region ?_ | refine run_nil ?_ | refine pst_then ?_ | (apply cod_cond_t; (focus rfl)) | (apply cod_cond_f; (focus rfl)) | refine cod_ret ?_ | refine cod_skip ?_ | refine pst_block_ret ?_ | refine pst_then_ret ?_ | (apply run_ong 9; (focus rfl); (focus exact wt); (focus (exact opr_store_box_agg rfl rfl rfl (by exact pka) rfl rfl rfl (by exact spla))); (rintro _ _ ⟨rfl, rfl⟩)) | (apply run_offs; (focus rfl); (focus rfl); (focus rfl)) | (apply run_osg 7; (focus rfl); (focus exact wt); (focus rfl); (focus (exact opr_call_ls (by rfl) (M1 ..) (by rfl) lpa)); (rintro _ _ ⟨rfl, rfl⟩))))
        exact pst_fin rfl (by exact resa) _ (NO _ _ _ _ 0 hF.symm) (by exact hsa)
      · rw [hn] at hF
        dsimp only at hF
        have hc : ¬ (x = 93 ∧ pl = false) := by
          rintro ⟨rfl, rfl⟩
          rw [drop_at hy, nextS] at hn
          by_cases h92 : y = 92
          · rw [if_pos h92] at hn
            unfold strokeS at hn
            split at hn
            · cases hn
            · cases hn
          · rw [if_neg h92] at hn
            cases hn
            exact h93 rfl
        rw [if_neg hc] at hF
        obtain ⟨n, ⟨hn1, hnl⟩, rfl, hm⟩ := next_at hn
        rw [hm] at M1
        have hc1 : (k : Int) + (n : Int) = ((k + n : Nat) : Int) := by omega
        (repeat' (first | (apply run_qg 1; (focus rfl); (focus exact wt); (focus rfl); (focus (exact qg1))) | (apply run_qg 2; (focus rfl); (focus exact wt); (focus rfl); (focus (first | exact qg2 | exact qs2))) | (apply run_qg 3; (focus rfl); (focus exact wt); (focus rfl); (focus (first | exact qg3 | exact qs3))) | (apply run_qg 4; (focus rfl); (focus exact wt); (focus rfl); (focus (first | exact qg4 | exact qs4))) | (apply run_qg 6; (focus rfl); (focus exact wt); (focus rfl); (focus (first | exact qs6 | exact qg6 | exact q_max rfl rfl rfl | exact q_sliceData rfl rfl (by omega) | exact q_sliceDataN rfl rfl | exact q_unsafeStringN rfl rfl rfl | exact q_cap_slice rfl rfl))) | refine cod_seq ?_ | refine cod_region ?_ | refine run_nil ?_ | refine pst_then ?_ | (apply cod_cond_t; (focus rfl)) | refine cod_block ?_ | refine cod_skip ?_))
        refine run_qg 12 rfl wt rfl (q_slice_l (i := k) rfl rfl rfl rfl hk) ?_
        refine run_heap (sl_from_keep (i := k) pka rfl hk) ?_
        (repeat' (first | (apply run_qg 1; (focus rfl); (focus exact wt); (focus rfl); (focus (exact qg1))) | (apply run_qg 4; (focus rfl); (focus exact wt); (focus rfl); (focus (first | exact qg4 | exact qs4))) | (apply cod_seq_nr 10; (focus rfl)) | refine cod_region ?_ | refine run_nil ?_ | refine pst_then ?_ | (apply run_osg 7; (focus rfl); (focus exact wt); (focus rfl); (focus (exact opr_call_ls (by rfl) (M1 ..) (by rfl) lpa)); (rintro _ _ ⟨rfl, rfl⟩))))
        rw [hc1]
        clear hc1 M1 hm hn
        have hkn : k + n ≤ p.length := hnl
        rcases range_at p (k + n) with ⟨y2, d, hy2, hd, hlt2, ⟨h45, h93d, h9⟩ | ⟨h8, h9⟩⟩ | ⟨hge, h9⟩
        · rw [h9] at hF
          dsimp only at hF
          subst h45
          have h93d' : ¬ ((d : Int) = 93) := by omega
          have M2 := MEM (k + n + 1) (by omega)
          have hc2 : ((k + n : Nat) : Int) + 1 = ((k + n + 1 : Nat) : Int) := rfl
          clear h9
          rcases hn2 : nextS (p.drop (k + n + 1)) with _ | ⟨h, pl2, r2⟩
          · rw [hn2] at hF
            rw [mem_none hn2] at M2
            (repeat' (first | (apply run_qg 1; (focus rfl); (focus exact wt); (focus rfl); (focus (exact qg1))) | (apply run_qg 2; (focus rfl); (focus exact wt); (focus rfl); (focus (first | exact qg2 | exact qs2))) | (apply run_qg 3; (focus rfl); (focus exact wt); (focus rfl); (focus (first | exact qg3 | exact qs3))) | (apply run_qg 4; (focus rfl); (focus exact wt); (focus rfl); (focus (first | exact qg4 | exact qs4))) | (apply run_qg 6; (focus rfl); (focus exact wt); (focus rfl); (focus (first | exact qs6 | exact qg6 | exact q_max rfl rfl rfl | exact q_sliceData rfl rfl (by omega) | exact q_sliceDataN rfl rfl | exact q_unsafeStringN rfl rfl rfl | exact q_cap_slice rfl rfl))) | refine cod_seq ?_ | refine cod_region ?_ | refine run_nil ?_ | refine pst_then ?_ | (apply cod_cond_t; (focus rfl))))
            refine run_qg 12 rfl wt rfl (q_slice_l (i := k + n + 1) rfl rfl rfl rfl (by omega)) ?_
            refine run_heap (sl_from_keep (i := k + n + 1) pka rfl (by omega)) ?_
            (repeat' (first | (apply run_qg 1; (focus rfl); (focus exact wt); (focus rfl); (focus (exact qg1))) | (apply run_qg 4; (focus rfl); (focus exact wt); (focus rfl); (focus (first | exact qg4 | exact qs4))) | (apply run_qg 5; (focus rfl); (focus exact wt); (focus rfl); (focus (exact qg5))) | refine cod_seq ?_ | refine cod_region ?_ | refine run_nil ?_ | refine pst_then ?_ | (apply cod_cond_t; (focus rfl)) | refine cod_ret ?_ | refine pst_block_ret ?_ | refine pst_then_ret ?_ | (apply run_ong 9; (focus rfl); (focus exact wt); (focus (exact opr_store_box_agg rfl rfl rfl (by exact pka) rfl rfl rfl (by exact spla))); (rintro _ _ ⟨rfl, rfl⟩)) | (apply run_offs; (focus rfl); (focus rfl); (focus rfl)) | (apply run_osg 7; (focus rfl); (focus exact wt); (focus rfl); (focus (exact opr_call_ls (by rfl) (M2 ..) (by rfl) lpa)); (rintro _ _ ⟨rfl, rfl⟩))))
            exact pst_fin rfl (by exact resa) _ (NO _ _ _ _ 0 hF.symm) (by exact hsa)
          · rw [hn2] at hF
            dsimp only at hF
            obtain ⟨n2, ⟨hn3, hnl2⟩, rfl, hm2⟩ := next_at hn2
            rw [hm2] at M2
            by_cases hlt3 : h < x
            · rw [if_pos hlt3] at hF
              (repeat' (first | (apply run_qg 1; (focus rfl); (focus exact wt); (focus rfl); (focus (exact qg1))) | (apply run_qg 2; (focus rfl); (focus exact wt); (focus rfl); (focus (first | exact qg2 | exact qs2))) | (apply run_qg 3; (focus rfl); (focus exact wt); (focus rfl); (focus (first | exact qg3 | exact qs3))) | (apply run_qg 4; (focus rfl); (focus exact wt); (focus rfl); (focus (first | exact qg4 | exact qs4))) | (apply run_qg 6; (focus rfl); (focus exact wt); (focus rfl); (focus (first | exact qs6 | exact qg6 | exact q_max rfl rfl rfl | exact q_sliceData rfl rfl (by omega) | exact q_sliceDataN rfl rfl | exact q_unsafeStringN rfl rfl rfl | exact q_cap_slice rfl rfl))) | refine cod_seq ?_ | refine cod_region ?_ | refine run_nil ?_ | refine pst_then ?_ | (apply cod_cond_t; (focus rfl))))
              refine run_qg 12 rfl wt rfl (q_slice_l (i := k + n + 1) rfl rfl rfl rfl (by omega)) ?_
              refine run_heap (sl_from_keep (i := k + n + 1) pka rfl (by omega)) ?_
              (repeat' (first | (apply run_qg 1; (focus rfl); (focus exact wt); (focus rfl); (focus (exact qg1))) | (apply run_qg 4; (focus rfl); (focus exact wt); (focus rfl); (focus (first | exact qg4 | exact qs4))) | (apply run_qg 5; (focus rfl); (focus exact wt); (focus rfl); (focus (exact qg5))) | refine cod_seq ?_ | refine cod_region ?_ | refine run_nil ?_ | refine pst_then ?_ | (apply cod_cond_t; (focus rfl)) | refine cod_ret ?_ | refine pst_block_ret ?_ | refine pst_then_ret ?_ | (apply run_ong 9; (focus rfl); (focus exact wt); (focus (exact opr_store_box_agg rfl rfl rfl (by exact pka) rfl rfl rfl (by exact spla))); (rintro _ _ ⟨rfl, rfl⟩)) | (apply run_osg 7; (focus rfl); (focus exact wt); (focus rfl); (focus (exact opr_call_ls (by rfl) (M2 ..) (by rfl) lpa)); (rintro _ _ ⟨rfl, rfl⟩))))
              exact pst_fin rfl (by exact resa) _ (NO _ _ _ _ 0 hF.symm) (by exact hsa)
            · rw [if_neg hlt3] at hF
              have hc3 : ((k + n : Nat) : Int) + (1 + (n2 : Int)) = ((k + n + 1 + n2 : Nat) : Int) := by omega
              (repeat' (first | (apply run_qg 1; (focus rfl); (focus exact wt); (focus rfl); (focus (exact qg1))) | (apply run_qg 2; (focus rfl); (focus exact wt); (focus rfl); (focus (first | exact qg2 | exact qs2))) | (apply run_qg 3; (focus rfl); (focus exact wt); (focus rfl); (focus (first | exact qg3 | exact qs3))) | (apply run_qg 4; (focus rfl); (focus exact wt); (focus rfl); (focus (first | exact qg4 | exact qs4))) | (apply run_qg 6; (focus rfl); (focus exact wt); (focus rfl); (focus (first | exact qs6 | exact qg6 | exact q_max rfl rfl rfl | exact q_sliceData rfl rfl (by omega) | exact q_sliceDataN rfl rfl | exact q_unsafeStringN rfl rfl rfl | exact q_cap_slice rfl rfl))) | refine cod_seq ?_ | refine cod_region ?_ | refine run_nil ?_ | refine pst_then ?_ | (apply cod_cond_t; (focus rfl))))
              refine run_qg 12 rfl wt rfl (q_slice_l (i := k + n + 1) rfl rfl rfl rfl (by omega)) ?_
              refine run_heap (sl_from_keep (i := k + n + 1) pka rfl (by omega)) ?_
              (repeat' (first | (apply run_qg 1; (focus rfl); (focus exact wt); (focus rfl); (focus (exact qg1))) | (apply run_qg 4; (focus rfl); (focus exact wt); (focus rfl); (focus (first | exact qg4 | exact qs4))) | (apply cod_seq_nr 13; (focus rfl)) | refine cod_region ?_ | refine run_nil ?_ | refine pst_then ?_ | (apply run_osg 7; (focus rfl); (focus exact wt); (focus rfl); (focus (exact opr_call_ls (by rfl) (M2 ..) (by rfl) lpa)); (rintro _ _ ⟨rfl, rfl⟩))))
              rw [hc3]
              clear hc3 M2 hm2 hn2
              (repeat' (first | (apply run_qg 1; (focus rfl); (focus exact wt); (focus rfl); (focus (exact qg1))) | (apply run_qg 2; (focus rfl); (focus exact wt); (focus rfl); (focus (first | exact qg2 | exact qs2))) | (apply run_qg 3; (focus rfl); (focus exact wt); (focus rfl); (focus (first | exact qg3 | exact qs3))) | (apply run_qg 4; (focus rfl); (focus exact wt); (focus rfl); (focus (first | exact qg4 | exact qs4))) | refine cod_seq ?_ | refine cod_region ?_ | refine run_nil ?_ | refine pst_then ?_ | (apply cod_cond_f; (focus rfl)) | refine cod_skip ?_))
              refine run_qg 5 rfl wt rfl (q_arr (cnt := 2) (e := 3) (by kernel_rfl) rfl rfl rfl blda) ?_
              (repeat' (first | (apply run_osg 10; (focus rfl); (focus exact wt); (focus rfl); (focus (exact opr_buildSlice rfl rfl rfl (by exact blda) rfl rfl (by decide) rfl)); (rintro _ _ ⟨q, rfl, rfl⟩))))
              refine run_os wt (by rfl) (by first | exact opr_append_lit0 (fS2) [((x, h) : Nat × Nat)] rfl rfl rfl (by exact pka) (by rfl) (by rfl) (by intro _; rfl) (by (first | exact one_fS | exact one_fI | exact one_fB | exact one_fP | exact one_fIIS | exact one_fIIIS | exact one_fII | exact one_fSI | exact one_fIIU | exact one_fY | exact one_fBl | exact one_fT | exact one_fE | assumption)) rfl (by simp only [List.length_cons, List.length_nil]; omega) (by (unfold maxLen); simp only [List.length_cons, List.length_nil]; omega) | exact opr_append_lit (fS2) [((x, h) : Nat × Nat)] rfl rfl rfl (by exact pka) (by exact pka) (by rfl) (by rfl) (by first | rfl | omega) (by intro _; rfl) (by (first | exact one_fS | exact one_fI | exact one_fB | exact one_fP | exact one_fIIS | exact one_fIIIS | exact one_fII | exact one_fSI | exact one_fIIU | exact one_fY | exact one_fBl | exact one_fT | exact one_fE | assumption)) rfl (by simp only [List.length_cons, List.length_nil]; omega) (by (unfold maxLen); simp only [List.length_cons, List.length_nil]; omega)) ?_
              rintro _ _ ⟨qn, cn, rfl, rfl⟩
              (repeat' (first | (apply run_qg 3; (focus rfl); (focus exact wt); (focus rfl); (focus (first | exact qg3 | exact qs3))) | refine run_nil ?_ | refine pst_block ?_ | (apply run_ong 9; (focus rfl); (focus exact wt); (focus (exact opr_store_box_one rfl rfl rfl rfl (by exact pka) rfl (by exact seta))); (rintro _ _ ⟨rfl, rfl⟩))))
              refine pst_again ((f, k + n + 1 + n2, acc ++ [(x, h)], qn, cn)) ?_ (FSub.of (by (try dsimp only); exact fsa)) (by (try dsimp only); exact hsa) ?_
              · refine ⟨⟨by omega, by dsimp only; omega⟩, hF, ?_⟩
                dsimp only
                rw [List.length_append, List.length_singleton]
                omega
              · exact Nat.lt_succ_self f
        · rw [h9] at hF
          dsimp only at hF
          clear h9
          rcases h8 with h8 | ⟨h8, h8d⟩
          · have h8' : ¬ ((y2 : Int) = 45) := by omega
            (repeat' (first | (apply run_qg 1; (focus rfl); (focus exact wt); (focus rfl); (focus (exact qg1))) | (apply run_qg 2; (focus rfl); (focus exact wt); (focus rfl); (focus (first | exact qg2 | exact qs2))) | (apply run_qg 3; (focus rfl); (focus exact wt); (focus rfl); (focus (first | exact qg3 | exact qs3))) | (apply run_qg 4; (focus rfl); (focus exact wt); (focus rfl); (focus (first | exact qg4 | exact qs4))) | (apply run_qg 6; (focus rfl); (focus exact wt); (focus rfl); (focus (first | exact qs6 | exact qg6 | exact q_max rfl rfl rfl | exact q_sliceData rfl rfl (by omega) | exact q_sliceDataN rfl rfl | exact q_unsafeStringN rfl rfl rfl | exact q_cap_slice rfl rfl))) | refine cod_seq ?_ | refine cod_region ?_ | refine run_nil ?_ | refine pst_then ?_ | (apply cod_cond_f; (focus rfl)) | refine cod_skip ?_ | (apply run_offs; (focus rfl); (focus rfl); (focus rfl))))
            refine run_qg 5 rfl wt rfl (q_arr (cnt := 2) (e := 3) (by kernel_rfl) rfl rfl rfl blda) ?_
            (repeat' (first | (apply run_osg 10; (focus rfl); (focus exact wt); (focus rfl); (focus (exact opr_buildSlice rfl rfl rfl (by exact blda) rfl rfl (by decide) rfl)); (rintro _ _ ⟨q, rfl, rfl⟩))))
            refine run_os wt (by rfl) (by first | exact opr_append_lit0 (fS2) [((x, x) : Nat × Nat)] rfl rfl rfl (by exact pka) (by rfl) (by rfl) (by intro _; rfl) (by (first | exact one_fS | exact one_fI | exact one_fB | exact one_fP | exact one_fIIS | exact one_fIIIS | exact one_fII | exact one_fSI | exact one_fIIU | exact one_fY | exact one_fBl | exact one_fT | exact one_fE | assumption)) rfl (by simp only [List.length_cons, List.length_nil]; omega) (by (unfold maxLen); simp only [List.length_cons, List.length_nil]; omega) | exact opr_append_lit (fS2) [((x, x) : Nat × Nat)] rfl rfl rfl (by exact pka) (by exact pka) (by rfl) (by rfl) (by first | rfl | omega) (by intro _; rfl) (by (first | exact one_fS | exact one_fI | exact one_fB | exact one_fP | exact one_fIIS | exact one_fIIIS | exact one_fII | exact one_fSI | exact one_fIIU | exact one_fY | exact one_fBl | exact one_fT | exact one_fE | assumption)) rfl (by simp only [List.length_cons, List.length_nil]; omega) (by (unfold maxLen); simp only [List.length_cons, List.length_nil]; omega)) ?_
            rintro _ _ ⟨qn, cn, rfl, rfl⟩
            (repeat' (first | (apply run_qg 3; (focus rfl); (focus exact wt); (focus rfl); (focus (first | exact qg3 | exact qs3))) | refine run_nil ?_ | refine pst_block ?_ | (apply run_ong 9; (focus rfl); (focus exact wt); (focus (exact opr_store_box_one rfl rfl rfl rfl (by exact pka) rfl (by exact seta))); (rintro _ _ ⟨rfl, rfl⟩))))
            refine pst_again ((f, k + n, acc ++ [(x, x)], qn, cn)) ?_ (FSub.of (by (try dsimp only); exact fsa)) (by (try dsimp only); exact hsa) ?_
            · refine ⟨⟨by omega, by dsimp only; omega⟩, hF, ?_⟩
              dsimp only
              rw [List.length_append, List.length_singleton]
              omega
            · exact Nat.lt_succ_self f
          · subst h8
            subst h8d
            (repeat' (first | (apply run_qg 1; (focus rfl); (focus exact wt); (focus rfl); (focus (exact qg1))) | (apply run_qg 2; (focus rfl); (focus exact wt); (focus rfl); (focus (first | exact qg2 | exact qs2))) | (apply run_qg 3; (focus rfl); (focus exact wt); (focus rfl); (focus (first | exact qg3 | exact qs3))) | (apply run_qg 4; (focus rfl); (focus exact wt); (focus rfl); (focus (first | exact qg4 | exact qs4))) | (apply run_qg 6; (focus rfl); (focus exact wt); (focus rfl); (focus (first | exact qs6 | exact qg6 | exact q_max rfl rfl rfl | exact q_sliceData rfl rfl (by omega) | exact q_sliceDataN rfl rfl | exact q_unsafeStringN rfl rfl rfl | exact q_cap_slice rfl rfl))) | refine cod_seq ?_ | refine cod_region ?_ | refine run_nil ?_ | refine pst_then ?_ | (apply cod_cond_f; (focus rfl)) | refine cod_skip ?_))
            refine run_qg 5 rfl wt rfl (q_arr (cnt := 2) (e := 3) (by kernel_rfl) rfl rfl rfl blda) ?_
            (repeat' (first | (apply run_osg 10; (focus rfl); (focus exact wt); (focus rfl); (focus (exact opr_buildSlice rfl rfl rfl (by exact blda) rfl rfl (by decide) rfl)); (rintro _ _ ⟨q, rfl, rfl⟩))))
            refine run_os wt (by rfl) (by first | exact opr_append_lit0 (fS2) [((x, x) : Nat × Nat)] rfl rfl rfl (by exact pka) (by rfl) (by rfl) (by intro _; rfl) (by (first | exact one_fS | exact one_fI | exact one_fB | exact one_fP | exact one_fIIS | exact one_fIIIS | exact one_fII | exact one_fSI | exact one_fIIU | exact one_fY | exact one_fBl | exact one_fT | exact one_fE | assumption)) rfl (by simp only [List.length_cons, List.length_nil]; omega) (by (unfold maxLen); simp only [List.length_cons, List.length_nil]; omega) | exact opr_append_lit (fS2) [((x, x) : Nat × Nat)] rfl rfl rfl (by exact pka) (by exact pka) (by rfl) (by rfl) (by first | rfl | omega) (by intro _; rfl) (by (first | exact one_fS | exact one_fI | exact one_fB | exact one_fP | exact one_fIIS | exact one_fIIIS | exact one_fII | exact one_fSI | exact one_fIIU | exact one_fY | exact one_fBl | exact one_fT | exact one_fE | assumption)) rfl (by simp only [List.length_cons, List.length_nil]; omega) (by (unfold maxLen); simp only [List.length_cons, List.length_nil]; omega)) ?_
            rintro _ _ ⟨qn, cn, rfl, rfl⟩
            (repeat' (first | (apply run_qg 3; (focus rfl); (focus exact wt); (focus rfl); (focus (first | exact qg3 | exact qs3))) | refine run_nil ?_ | refine pst_block ?_ | (apply run_ong 9; (focus rfl); (focus exact wt); (focus (exact opr_store_box_one rfl rfl rfl rfl (by exact pka) rfl (by exact seta))); (rintro _ _ ⟨rfl, rfl⟩))))
            refine pst_again ((f, k + n, acc ++ [(x, x)], qn, cn)) ?_ (FSub.of (by (try dsimp only); exact fsa)) (by (try dsimp only); exact hsa) ?_
            · refine ⟨⟨by omega, by dsimp only; omega⟩, hF, ?_⟩
              dsimp only
              rw [List.length_append, List.length_singleton]
              omega
            · exact Nat.lt_succ_self f
        · rw [h9] at hF
          dsimp only at hF
          clear h9
          (repeat' (first | (apply run_qg 1; (focus rfl); (focus exact wt); (focus rfl); (focus (exact qg1))) | (apply run_qg 2; (focus rfl); (focus exact wt); (focus rfl); (focus (first | exact qg2 | exact qs2))) | (apply run_qg 3; (focus rfl); (focus exact wt); (focus rfl); (focus (first | exact qg3 | exact qs3))) | (apply run_qg 4; (focus rfl); (focus exact wt); (focus rfl); (focus (first | exact qg4 | exact qs4))) | (apply run_qg 6; (focus rfl); (focus exact wt); (focus rfl); (focus (first | exact qs6 | exact qg6 | exact q_max rfl rfl rfl | exact q_sliceData rfl rfl (by omega) | exact q_sliceDataN rfl rfl | exact q_unsafeStringN rfl rfl rfl | exact q_cap_slice rfl rfl))) | refine cod_seq ?_ | refine cod_region ?_ | refine run_nil ?_ | refine pst_then ?_ | (apply cod_cond_f; (focus rfl)) | refine cod_skip ?_ | (apply run_offs; (focus rfl); (focus rfl); (focus rfl))))
          refine run_qg 5 rfl wt rfl (q_arr (cnt := 2) (e := 3) (by kernel_rfl) rfl rfl rfl blda) ?_
          (repeat' (first | (apply run_osg 10; (focus rfl); (focus exact wt); (focus rfl); (focus (exact opr_buildSlice rfl rfl rfl (by exact blda) rfl rfl (by decide) rfl)); (rintro _ _ ⟨q, rfl, rfl⟩))))
          refine run_os wt (by rfl) (by first | exact opr_append_lit0 (fS2) [((x, x) : Nat × Nat)] rfl rfl rfl (by exact pka) (by rfl) (by rfl) (by intro _; rfl) (by (first | exact one_fS | exact one_fI | exact one_fB | exact one_fP | exact one_fIIS | exact one_fIIIS | exact one_fII | exact one_fSI | exact one_fIIU | exact one_fY | exact one_fBl | exact one_fT | exact one_fE | assumption)) rfl (by simp only [List.length_cons, List.length_nil]; omega) (by (unfold maxLen); simp only [List.length_cons, List.length_nil]; omega) | exact opr_append_lit (fS2) [((x, x) : Nat × Nat)] rfl rfl rfl (by exact pka) (by exact pka) (by rfl) (by rfl) (by first | rfl | omega) (by intro _; rfl) (by (first | exact one_fS | exact one_fI | exact one_fB | exact one_fP | exact one_fIIS | exact one_fIIIS | exact one_fII | exact one_fSI | exact one_fIIU | exact one_fY | exact one_fBl | exact one_fT | exact one_fE | assumption)) rfl (by simp only [List.length_cons, List.length_nil]; omega) (by (unfold maxLen); simp only [List.length_cons, List.length_nil]; omega)) ?_
          rintro _ _ ⟨qn, cn, rfl, rfl⟩
          (repeat' (first | (apply run_qg 3; (focus rfl); (focus exact wt); (focus rfl); (focus (first | exact qg3 | exact qs3))) | refine run_nil ?_ | refine pst_block ?_ | (apply run_ong 9; (focus rfl); (focus exact wt); (focus (exact opr_store_box_one rfl rfl rfl rfl (by exact pka) rfl (by exact seta))); (rintro _ _ ⟨rfl, rfl⟩))))
          refine pst_again ((f, k + n, acc ++ [(x, x)], qn, cn)) ?_ (FSub.of (by (try dsimp only); exact fsa)) (by (try dsimp only); exact hsa) ?_
          · refine ⟨⟨by omega, by dsimp only; omega⟩, hF, ?_⟩
            dsimp only
            rw [List.length_append, List.length_singleton]
            omega
          · exact Nat.lt_succ_self f
  · have hn : nextS (p.drop k) = none := by rw [List.drop_of_length_le hge]; unfold nextS; rfl
    rw [hn] at hF
    (repeat' (first | (apply run_qg 1; (focus rfl); (focus exact wt); (focus rfl); (focus (exact qg1))) | (apply run_qg 4; (focus rfl); (focus exact wt); (focus rfl); (focus (first | exact qg4 | exact qs4))) | (apply run_qg 6; (focus rfl); (focus exact wt); (focus rfl); (focus (first | exact qs6 | exact qg6 | exact q_max rfl rfl rfl | exact q_sliceData rfl rfl (by omega) | exact q_sliceDataN rfl rfl | exact q_unsafeStringN rfl rfl rfl | exact q_cap_slice rfl rfl))) | (apply cod_seq_nd; (focus rfl)) | refine cod_region ?_ | refine run_nil ?_ | refine pst_then ?_ | (apply cod_cond_f; (focus rfl)) | refine cod_exit ?_ | refine pst_block_here ?_ | refine pst_then_exit ?_ | (apply run_offs; (focus rfl); (focus rfl); (focus rfl))))
    refine cod_seq ?_
    (refine cod_drawn_ks (Hq := [_]) [0] [] rfl (by kernel_rfl) (by simp only [List.length_cons, List.length_nil, Nat.reduceAdd]; rfl) ?_)
    (repeat' (first | refine pst_then ?_ | refine cod_ret ?_ | (apply drnK_take 1; (focus rfl); (focus rfl); (focus exact wt); (focus (decide +kernel)); (focus exact hsq); (focus rfl); (focus (exact qg1))) | (apply drnK_take 2; (focus rfl); (focus rfl); (focus exact wt); (focus (decide +kernel)); (focus exact hsq); (focus rfl); (focus (first | exact qg2 | exact qs2))) | (apply drnK_take 4; (focus rfl); (focus rfl); (focus exact wt); (focus (decide +kernel)); (focus exact hsq); (focus rfl); (focus (first | exact qg4 | exact qs4))) | (apply drnK_take 6; (focus rfl); (focus rfl); (focus exact wt); (focus (decide +kernel)); (focus exact hsq); (focus rfl); (focus (first | exact qs6 | exact qg6 | exact q_max rfl rfl rfl | exact q_sliceData rfl rfl (by omega) | exact q_sliceDataN rfl rfl | exact q_unsafeStringN rfl rfl rfl | exact q_cap_slice rfl rfl))) | (apply drnK_off; (focus rfl); (focus rfl); (focus rfl); (focus (decide +kernel)); (focus exact hsq); (focus rfl)) | (apply drnK_onen 9; (focus rfl); (focus rfl); (focus (decide +kernel)); (focus exact wt); (focus (exact opr_store_box_agg rfl rfl rfl (by exact pka) rfl rfl rfl (by exact spla))); (rintro _ _ ⟨rfl, rfl⟩; refine ⟨(by first | exact fun h => absurd h (by decide) | exact fun _ => hsq), ?_⟩)) | (apply drnK_end; (focus (decide +kernel)))))
    exact pst_fin rfl (by exact resa) _ (NO _ _ _ _ (k + 1) hF.symm) (by exact hsa)
end Go.Proofs.YtcbpeampjhegcaaDoor.glob
