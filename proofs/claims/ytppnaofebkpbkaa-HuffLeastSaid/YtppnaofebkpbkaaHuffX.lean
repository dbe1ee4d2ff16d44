/-
  huff: coins and what they hold; check, pairs, merged: the walks.
-/
import Derived.Test.YtppnaofebkpbkaaSlMany2
import Derived.Test.YtppnaofebkpbkaaSlRow2
import Derived.Test.YtppnaofebkpbkaaSlOwn
import Derived.Test.YtppnaofebkpbkaaIntsCat
import Derived.Test.YtppnaofebkpbkaaPm
import Derived.Test.YtppnaofebkpbkaaHuffSortF
namespace Go.Proofs.Ytppnaofebkpbkaa.huff
open Go.RowKit kit sl Go.Proofs.Ytppnaofebkpbkaa.srt Go.Proofs.Ytppnaofebkpbkaa.hsort Go.Proofs.Ytppnaofebkpbkaa.pm
set_option linter.unusedVariables false
/-- a coin: its worth, its signs; where these lie -/
abbrev XC := Int × List Nat × Option Addr × Nat
def cvOf (x : XC) : CV := (x.1, x.2.2.1, x.2.1.length, x.2.2.2)
def fX (x : XC) : List Value := [.int .i64 x.1, .slice x.2.2.1 x.2.1.length x.2.2.2]
theorem one_fX (x : XC) : ∀ u ∈ fX x, u.oneCell' = true := by simp [fX, Value.oneCell']
def stp (x : XC) : Coin := (x.1, x.2.1)
def sI (x : XC) : List Int := x.2.1.map fun n : Nat => (n : Int)
def slV (x : XC) : Value := .slice x.2.2.1 x.2.1.length x.2.2.2
def rowI (x : XC) : Ent := own (slV x) 3 1 x.2.1.length (flat fI (sI x))
def lotI (x : XC) : Value × List (List Value) := (slV x, (sI x).map fI)
theorem rowI_x (x : XC) : (rowI x).excl = true := rfl
instance {x : XC} {L : List Ent} [hl : XL L] : XL (rowI x :: L) := ⟨fun g hg => by
  rcases List.mem_cons.1 hg with rfl | hg
  · rfl
  · exact hl.h g hg⟩
instance {l L : List Ent} [hl : XL L] : XL (bundle l :: L) := ⟨fun g hg => by
  rcases List.mem_cons.1 hg with rfl | hg
  · rfl
  · exact hl.h g hg⟩
theorem flat_fX (xs : List XC) : flat fC (xs.map cvOf) = flat fX xs := by
  unfold flat
  rw [List.map_map]
  rfl
instance : Key XC := ⟨fun x => x.1⟩
theorem ins_map (x : XC) : ∀ l : List XC, (ins x l).map cvOf = ins (cvOf x) (l.map cvOf)
  | [] => rfl
  | y :: l => by
    rw [ins, List.map_cons, ins]
    by_cases h : kf x ≤ kf y
    · rw [if_pos h, if_pos (show kf (cvOf x) ≤ kf (cvOf y) from h)]
      rfl
    · rw [if_neg h, if_neg (show ¬ kf (cvOf x) ≤ kf (cvOf y) from h), List.map_cons, ins_map x l]
theorem flat_two {α : Type} (f : α → List Value) (a b : List α) : flat f (a ++ b) = flat f a ++ flat f b := by
  unfold flat
  rw [List.map_append, List.flatten_append]
theorem sort_map : ∀ l : List XC, (sortW l).map cvOf = sortW (l.map cvOf)
  | [] => rfl
  | x :: l => by rw [sortW, ins_map, sort_map l]; rfl
/-- merged, with what lies where -/
def mgX (x : XC) (a : List XC) (r : List XC → List XC) : List XC → List XC
  | [] => x :: a
  | y :: b => if x.1 ≤ y.1 then x :: r (y :: b) else y :: mgX x a r b
def mrg : List XC → List XC → List XC
  | [], b => b
  | x :: a, b => mgX x a (mrg a) b
theorem mrg_nil (a : List XC) : mrg a [] = a := by cases a <;> rfl
theorem mrg_le {x y : XC} {a b : List XC} (h : x.1 ≤ y.1) : mrg (x :: a) (y :: b) = x :: mrg a (y :: b) := if_pos h
theorem mrg_gt {x y : XC} {a b : List XC} (h : ¬ x.1 ≤ y.1) : mrg (x :: a) (y :: b) = y :: mrg (x :: a) b := if_neg h
theorem mrg_stp : ∀ a b : List XC, (mrg a b).map stp = merged (a.map stp) (b.map stp) := by
  intro a
  induction a with
  | nil => intro b; rfl
  | cons x a iha =>
    intro b
    induction b with
    | nil => rw [mrg_nil, List.map_nil, merged_nil]
    | cons y b ihb =>
      by_cases h : x.1 ≤ y.1
      · rw [mrg_le h, List.map_cons, List.map_cons, List.map_cons, merged_le (x := stp x) (y := stp y) h, iha]
        rfl
      · rw [mrg_gt h, List.map_cons, List.map_cons, List.map_cons, merged_gt (x := stp x) (y := stp y) h, ihb]
        rfl
theorem mrg_mem : ∀ {a b : List XC} {z : XC}, z ∈ mrg a b ↔ z ∈ a ∨ z ∈ b := by
  intro a
  induction a with
  | nil => intro b z; simp [mrg]
  | cons x a iha =>
    intro b
    induction b with
    | nil => intro z; rw [mrg_nil]; simp
    | cons y b ihb =>
      intro z
      by_cases h : x.1 ≤ y.1
      · rw [mrg_le h, List.mem_cons, iha, List.mem_cons, List.mem_cons]
        constructor
        · rintro (h | h | h | h)
          · exact .inl (.inl h)
          · exact .inl (.inr h)
          · exact .inr (.inl h)
          · exact .inr (.inr h)
        · rintro ((h | h) | h | h)
          · exact .inl h
          · exact .inr (.inl h)
          · exact .inr (.inr (.inl h))
          · exact .inr (.inr (.inr h))
      · rw [mrg_gt h, List.mem_cons, ihb, List.mem_cons, List.mem_cons]
        constructor
        · rintro (h | (h | h) | h)
          · exact .inr (.inl h)
          · exact .inl (.inl h)
          · exact .inl (.inr h)
          · exact .inr (.inr h)
        · rintro ((h | h) | h | h)
          · exact .inr (.inl (.inl h))
          · exact .inr (.inl (.inr h))
          · exact .inl h
          · exact .inr (.inr h)
theorem mrg_len (a b : List XC) : (mrg a b).length = a.length + b.length := by
  have h := congrArg List.length (mrg_stp a b)
  rw [List.length_map, merged_len, List.length_map, List.length_map] at h
  exact h
def checkF (F : List Int) : Int := if 320 < F.length then 2 else
  match F with
  | [] => 0
  | _ => F.foldr (fun f e => if f < 0 then 1 else if 1048576 < f then 2 else e) 0
def GoodF (F : List Int) : Prop := F.length ≤ 320 ∧ ∀ f ∈ F, 0 ≤ f ∧ f ≤ 1048576
def badE : List Int → Int
  | [] => 0
  | f :: F => if f < 0 then 1 else if 1048576 < f then 2 else badE F
def chkE (F : List Int) : Int := if 320 < F.length then 2 else badE F
theorem badE_next {F : List Int} {k : Nat} {f : Int} (hf : F[k]? = some f) (h0 : 0 ≤ f) (h1 : f ≤ 1048576) : badE (F.drop k) = badE (F.drop (k + 1)) := by
  obtain ⟨h2, h3⟩ := List.getElem?_eq_some_iff.1 hf
  rw [List.drop_eq_getElem_cons h2, h3, badE, if_neg (by omega), if_neg (by omega)]
theorem badE_at {F : List Int} {k : Nat} {f : Int} (hf : F[k]? = some f) : badE (F.drop k) = if f < 0 then 1 else if 1048576 < f then 2 else badE (F.drop (k + 1)) := by
  obtain ⟨h2, h3⟩ := List.getElem?_eq_some_iff.1 hf
  rw [List.drop_eq_getElem_cons h2, h3, badE]
theorem badE_zero : ∀ {F : List Int}, badE F = 0 ↔ ∀ f ∈ F, 0 ≤ f ∧ f ≤ 1048576
  | [] => by simp [badE]
  | f :: F => by
    rw [badE]
    split
    · constructor
      · intro h; cases h
      · intro h; have := h f List.mem_cons_self; omega
    · split
      · constructor
        · intro h; cases h
        · intro h; have := h f List.mem_cons_self; omega
      · rw [badE_zero]
        constructor
        · intro h x hx
          rcases List.mem_cons.1 hx with rfl | hx
          · omega
          · exact h x hx
        · exact fun h x hx => h x (List.mem_cons_of_mem _ hx)
theorem chk_zero {F : List Int} : chkE F = 0 ↔ GoodF F := by
  unfold chkE GoodF
  split
  · constructor
    · intro h; cases h
    · intro h; omega
  · rw [badE_zero]
    exact ⟨fun h => ⟨by omega, h⟩, fun h => h.2⟩
attribute [local irreducible] box own sl old bptr eptr Qt Opr Run Cod Pst Drn
set_option maxRecDepth 100000 in
set_option maxHeartbeats 8000000 in
theorem check_any (q : Option Addr) (c : Nat) (F : List Int) (hl : F.length ≤ 1000000000000000) :
    Ct Try.prog 19 [.slice q F.length c] [sl 1 (.slice q F.length c) (F.map fI)] fun v H' => v = .int .i64 (chkE F) ∧ H' = [] := by
  by_cases h : 320 < F.length
  · have e : chkE F = 2 := by unfold chkE; rw [if_pos h]
    rw [e]
    (refine spec_enter Try.func19 Try.ntmps19 rfl rfl fun Fr => ?_; dsimp only [List.cons_append, List.nil_append, ini, Nat.reduceAdd])
    (repeat' (first | (apply run_qg 1; (focus rfl); (focus exact wt); (focus rfl); (focus (exact qg1))) | (apply run_qg 4; (focus rfl); (focus exact wt); (focus rfl); (focus (first | exact qg4 | exact qs4))) | (apply run_qg 6; (focus rfl); (focus exact wt); (focus rfl); (focus (first | exact qs6 | exact qg6 | exact q_max rfl rfl rfl | exact q_sliceData rfl rfl (by omega) | exact q_sliceDataN rfl rfl | exact q_unsafeStringN rfl rfl rfl | exact q_cap_slice rfl rfl))) | refine cod_seq ?_ | refine cod_region ?_ | refine run_nil ?_ | refine pst_then ?_ | (apply cod_cond_t; (focus rfl)) | refine cod_ret ?_ | refine pst_then_ret ?_))
    exact pst_fin rfl (by exact resa) _ (⟨rfl, rfl⟩) (by exact hsa)
  · have e : chkE F = badE F := by unfold chkE; rw [if_neg h]
    rw [e]
    (refine spec_enter Try.func19 Try.ntmps19 rfl rfl fun Fr => ?_; dsimp only [List.cons_append, List.nil_append, ini, Nat.reduceAdd])
    (repeat' (first | (apply run_qg 1; (focus rfl); (focus exact wt); (focus rfl); (focus (exact qg1))) | (apply run_qg 4; (focus rfl); (focus exact wt); (focus rfl); (focus (first | exact qg4 | exact qs4))) | (apply run_qg 6; (focus rfl); (focus exact wt); (focus rfl); (focus (first | exact qs6 | exact qg6 | exact q_max rfl rfl rfl | exact q_sliceData rfl rfl (by omega) | exact q_sliceDataN rfl rfl | exact q_unsafeStringN rfl rfl rfl | exact q_cap_slice rfl rfl))) | refine cod_seq ?_ | refine cod_region ?_ | refine run_nil ?_ | refine pst_then ?_ | (apply cod_cond_f; (focus rfl)) | refine cod_block ?_ | refine cod_skip ?_))
    (refine cod_loop_ro (σ := Nat) (fun k => k ≤ F.length ∧ badE F = badE (F.drop k)) (fun k => [(10, .int .i64 (k : Int))]) (fun k => F.length - k) (0) (by exact ⟨Nat.zero_le _, rfl⟩) (by exact fsa) (fun k ⟨hk, hb⟩ => ?_); dsimp only [List.cons_append, List.nil_append])
    rcases get_or F k with ⟨f, hf, hlt⟩ | hge
    · have h1 := badE_at hf
      rw [← hb] at h1
      rcases Int.lt_or_le f 0 with g | g
      · rw [if_pos g] at h1
        (repeat' (first | (apply run_qg 1; (focus rfl); (focus exact wt); (focus rfl); (focus (exact qg1))) | (apply run_qg 2; (focus rfl); (focus exact wt); (focus rfl); (focus (first | exact qg2 | exact qs2))) | (apply run_qg 3; (focus rfl); (focus exact wt); (focus rfl); (focus (first | exact qg3 | exact qs3))) | (apply run_qg 4; (focus rfl); (focus exact wt); (focus rfl); (focus (first | exact qg4 | exact qs4))) | refine cod_seq ?_ | refine cod_region ?_ | refine run_nil ?_ | refine pst_then ?_ | (apply cod_cond_t; (focus rfl)) | refine cod_block ?_ | refine cod_ret ?_ | refine cod_skip ?_ | refine pst_block_ret ?_ | refine pst_then_ret ?_))
        exact pst_fin rfl (by exact resa) _ (⟨by rw [h1], rfl⟩) (by exact hsa)
      · rw [if_neg (by omega)] at h1
        rcases Int.lt_or_le 1048576 f with g2 | g2
        · rw [if_pos g2] at h1
          (repeat' (first | (apply run_qg 1; (focus rfl); (focus exact wt); (focus rfl); (focus (exact qg1))) | (apply run_qg 2; (focus rfl); (focus exact wt); (focus rfl); (focus (first | exact qg2 | exact qs2))) | (apply run_qg 3; (focus rfl); (focus exact wt); (focus rfl); (focus (first | exact qg3 | exact qs3))) | (apply run_qg 4; (focus rfl); (focus exact wt); (focus rfl); (focus (first | exact qg4 | exact qs4))) | refine cod_seq ?_ | refine cod_region ?_ | refine run_nil ?_ | refine pst_then ?_ | (apply cod_cond_t; (focus rfl)) | (apply cod_cond_f; (focus rfl)) | refine cod_block ?_ | refine cod_ret ?_ | refine cod_skip ?_ | refine pst_block_ret ?_ | refine pst_then_ret ?_))
          exact pst_fin rfl (by exact resa) _ (⟨by rw [h1], rfl⟩) (by exact hsa)
        · rw [if_neg (by omega)] at h1
          (repeat' (first | (apply run_qg 1; (focus rfl); (focus exact wt); (focus rfl); (focus (exact qg1))) | (apply run_qg 2; (focus rfl); (focus exact wt); (focus rfl); (focus (first | exact qg2 | exact qs2))) | (apply run_qg 3; (focus rfl); (focus exact wt); (focus rfl); (focus (first | exact qg3 | exact qs3))) | (apply run_qg 4; (focus rfl); (focus exact wt); (focus rfl); (focus (first | exact qg4 | exact qs4))) | refine cod_seq ?_ | refine cod_region ?_ | refine run_nil ?_ | refine pst_then ?_ | (apply cod_cond_t; (focus rfl)) | (apply cod_cond_f; (focus rfl)) | refine cod_block ?_ | refine cod_skip ?_ | refine pst_block ?_))
          refine pst_again (k + 1) ?_ (FSub.of (by (try dsimp only); exact fsa)) (by (try dsimp only); exact hsa) ?_
          · exact ⟨hlt, h1⟩
          · omega
    · have h1 : badE F = 0 := by rw [hb, List.drop_of_length_le hge]; rfl
      (repeat' (first | (apply run_qg 1; (focus rfl); (focus exact wt); (focus rfl); (focus (exact qg1))) | (apply run_qg 4; (focus rfl); (focus exact wt); (focus rfl); (focus (first | exact qg4 | exact qs4))) | refine cod_seq ?_ | refine cod_region ?_ | refine run_nil ?_ | refine pst_then ?_ | (apply cod_cond_f; (focus rfl)) | refine cod_exit ?_ | refine cod_ret ?_ | refine pst_block_here ?_ | refine pst_then_exit ?_))
      exact pst_fin rfl (by exact resa) _ (⟨by rw [h1], rfl⟩) (by exact hsa)
set_option maxRecDepth 100000 in
set_option maxHeartbeats 8000000 in
theorem merged_any (qa qb : Option Addr) (ca cb : Nat) (X Y : List XC) (hX : X.length ≤ 1000000) (hY : Y.length ≤ 1000000) :
    Ct Try.prog 23 [.slice qa X.length ca, .slice qb Y.length cb] [sl 2 (.slice qa X.length ca) (X.map fX), sl 2 (.slice qb Y.length cb) (Y.map fX)]
      fun v H' => ∃ q c, v = .slice q (mrg X Y).length c ∧ H' = [own (.slice q (mrg X Y).length c) 44 2 (mrg X Y).length (flat fX (mrg X Y))] := by
  have hone := one_fX
  (refine spec_enter Try.func23 Try.ntmps23 rfl rfl fun Fr => ?_; dsimp only [List.cons_append, List.nil_append, ini, Nat.reduceAdd])
  (repeat' (first | (apply run_qg 1; (focus rfl); (focus exact wt); (focus rfl); (focus (exact qg1))) | refine cod_seq ?_ | refine cod_region ?_ | refine run_nil ?_ | refine pst_then ?_ | refine cod_block ?_))
  refine cod_heap (heap_nil _ 44 2) ?_
  (refine cod_loop_rw (σ := List XC × Option Addr × Nat × List XC × Option Addr × Nat × List XC × Option Addr × Nat) (fun s => (mrg X Y = s.2.2.2.2.2.2.1 ++ mrg s.1 s.2.2.2.1) ∧ (s.1.length ≤ 1000000 ∧ s.2.2.2.1.length ≤ 1000000)) (fun s => [(0, .slice s.2.1 s.1.length s.2.2.1), (1, .slice s.2.2.2.2.1 s.2.2.2.1.length s.2.2.2.2.2.1), (5, .slice s.2.2.2.2.2.2.2.1 s.2.2.2.2.2.2.1.length s.2.2.2.2.2.2.2.2)]) (fun s => [own (.slice s.2.2.2.2.2.2.2.1 s.2.2.2.2.2.2.1.length s.2.2.2.2.2.2.2.2) 44 2 s.2.2.2.2.2.2.1.length (flat fX s.2.2.2.2.2.2.1), sl 2 (.slice s.2.1 s.1.length s.2.2.1) (s.1.map fX), sl 2 (.slice s.2.2.2.2.1 s.2.2.2.1.length s.2.2.2.2.2.1) (s.2.2.2.1.map fX)]) _ (fun s => s.1.length + s.2.2.2.1.length) ((X, qa, ca, Y, qb, cb, [], none, 0)) (by exact ⟨rfl, hX, hY⟩) (by exact fsa) (by (first | exact HSub.of_picks_rest (by exact pca))) (fun ⟨xs, q1, c1, ys, q2, c2, zs, q, c⟩ ⟨hI, hx, hy⟩ => ?_); dsimp only [List.cons_append, List.nil_append])
  dsimp only at hI hx hy
  have hzl : zs.length + xs.length + ys.length ≤ 2000000 := by
    have h1 := congrArg List.length hI
    rw [List.length_append, mrg_len, mrg_len] at h1
    omega
  rcases Nat.eq_zero_or_pos xs.length with h0 | h0
  · have hxn : xs = [] := List.eq_nil_of_length_eq_zero h0
    have hfin : mrg X Y = zs ++ xs ++ ys := by rw [hI, hxn, List.append_nil]; rfl
    rw [hfin]
    clear hI hfin hxn
    (repeat' (first | (apply run_qg 1; (focus rfl); (focus exact wt); (focus rfl); (focus (exact qg1))) | (apply run_qg 4; (focus rfl); (focus exact wt); (focus rfl); (focus (first | exact qg4 | exact qs4))) | (apply run_qg 6; (focus rfl); (focus exact wt); (focus rfl); (focus (first | exact qs6 | exact qg6 | exact q_max rfl rfl rfl | exact q_sliceData rfl rfl (by omega) | exact q_sliceDataN rfl rfl | exact q_unsafeStringN rfl rfl rfl | exact q_cap_slice rfl rfl))) | refine cod_seq ?_ | refine cod_region ?_ | refine run_nil ?_ | refine pst_then ?_ | (apply cod_cond_f; (focus rfl)) | refine cod_exit ?_ | refine pst_block_here ?_ | refine pst_then_exit ?_ | (apply run_offs; (focus rfl); (focus rfl); (focus rfl))))
    (refine run_os wt rfl (opr_append (cnt := 0) (f := fX) (ys := xs) rfl rfl rfl pka pka (by intro _; rfl) one_fX rfl (by omega) (by unfold maxLen; omega)) ?_; rintro _ _ ⟨q3, c3, rfl, rfl⟩)
    (repeat' (first | (apply run_qg 1; (focus rfl); (focus exact wt); (focus rfl); (focus (exact qg1)))))
    (refine run_os wt rfl (opr_append (cnt := 0) (f := fX) (ys := ys) rfl rfl rfl pka pka (by intro _; rfl) one_fX rfl (by omega) (by unfold maxLen; omega)) ?_; rintro _ _ ⟨q4, c4, rfl, rfl⟩)
    rw [← flat_two, ← flat_two, ← List.length_append, ← List.length_append]
    (repeat' (first | (apply run_qg 1; (focus rfl); (focus exact wt); (focus rfl); (focus (exact qg1))) | refine run_nil ?_ | refine pst_then ?_ | refine cod_ret ?_))
    exact pst_fin rfl (by exact resa) _ (⟨_, _, rfl, rfl⟩) (by exact hsa)
  · rcases Nat.eq_zero_or_pos ys.length with g0 | g0
    · have hyn : ys = [] := List.eq_nil_of_length_eq_zero g0
      have hfin : mrg X Y = zs ++ xs ++ ys := by rw [hI, hyn, List.append_nil, mrg_nil]
      rw [hfin]
      clear hI hfin hyn
      (repeat' (first | (apply run_qg 1; (focus rfl); (focus exact wt); (focus rfl); (focus (exact qg1))) | (apply run_qg 4; (focus rfl); (focus exact wt); (focus rfl); (focus (first | exact qg4 | exact qs4))) | (apply run_qg 6; (focus rfl); (focus exact wt); (focus rfl); (focus (first | exact qs6 | exact qg6 | exact q_max rfl rfl rfl | exact q_sliceData rfl rfl (by omega) | exact q_sliceDataN rfl rfl | exact q_unsafeStringN rfl rfl rfl | exact q_cap_slice rfl rfl))) | refine cod_seq ?_ | refine cod_region ?_ | refine run_nil ?_ | refine pst_then ?_ | (apply cod_cond_f; (focus rfl)) | refine cod_exit ?_ | refine pst_block_here ?_ | refine pst_then_exit ?_))
      (refine run_os wt rfl (opr_append (cnt := 0) (f := fX) (ys := xs) rfl rfl rfl pka pka (by intro _; rfl) one_fX rfl (by omega) (by unfold maxLen; omega)) ?_; rintro _ _ ⟨q3, c3, rfl, rfl⟩)
      (repeat' (first | (apply run_qg 1; (focus rfl); (focus exact wt); (focus rfl); (focus (exact qg1)))))
      (refine run_os wt rfl (opr_append (cnt := 0) (f := fX) (ys := ys) rfl rfl rfl pka pka (by intro _; rfl) one_fX rfl (by omega) (by unfold maxLen; omega)) ?_; rintro _ _ ⟨q4, c4, rfl, rfl⟩)
      rw [← flat_two, ← flat_two, ← List.length_append, ← List.length_append]
      (repeat' (first | (apply run_qg 1; (focus rfl); (focus exact wt); (focus rfl); (focus (exact qg1))) | refine run_nil ?_ | refine pst_then ?_ | refine cod_ret ?_))
      exact pst_fin rfl (by exact resa) _ (⟨_, _, rfl, rfl⟩) (by exact hsa)
    · obtain ⟨x, hx0⟩ : ∃ x, xs[0]? = some x := ⟨_, List.getElem?_eq_getElem h0⟩
      obtain ⟨y, hy0⟩ : ∃ y, ys[0]? = some y := ⟨_, List.getElem?_eq_getElem g0⟩
      have ex : xs = x :: xs.drop 1 := by
        cases xs with
        | nil => cases hx0
        | cons a l => cases hx0; rfl
      have ey : ys = y :: ys.drop 1 := by
        cases ys with
        | nil => cases hy0
        | cons a l => cases hy0; rfl
      have dx : (xs.drop 1).length = xs.length - 1 := List.length_drop
      have dy : (ys.drop 1).length = ys.length - 1 := List.length_drop
      by_cases hxy : x.1 ≤ y.1
      · have hN : mrg X Y = (zs ++ [x]) ++ mrg (xs.drop 1) ys := by
          rw [hI, ex, ey, mrg_le hxy, ← ey, List.append_assoc]
          rfl
        clear hI ex ey
        (repeat' (first | (apply run_qg 1; (focus rfl); (focus exact wt); (focus rfl); (focus (exact qg1))) | (apply run_qg 4; (focus rfl); (focus exact wt); (focus rfl); (focus (first | exact qg4 | exact qs4))) | (apply run_qg 6; (focus rfl); (focus exact wt); (focus rfl); (focus (first | exact qs6 | exact qg6 | exact q_max rfl rfl rfl | exact q_sliceData rfl rfl (by omega) | exact q_sliceDataN rfl rfl | exact q_unsafeStringN rfl rfl rfl | exact q_cap_slice rfl rfl))) | refine cod_seq ?_ | refine cod_region ?_ | refine run_nil ?_ | refine pst_then ?_ | (apply cod_cond_t; (focus rfl)) | refine cod_block ?_ | refine cod_skip ?_))
        (refine cod_drawn_ks (Hq := [_, _]) [1, 2] [] rfl (by kernel_rfl) (by simp only [List.length_cons, List.length_nil, Nat.reduceAdd]; rfl) ?_)
        (repeat' (first | refine pst_then ?_ | (apply cod_cond_t; (focus rfl)) | (apply drnK_take 1; (focus rfl); (focus rfl); (focus exact wt); (focus (decide +kernel)); (focus exact hsq); (focus rfl); (focus (exact qg1))) | (apply drnK_take 2; (focus rfl); (focus rfl); (focus exact wt); (focus (decide +kernel)); (focus exact hsq); (focus rfl); (focus (first | exact qg2 | exact qs2))) | (apply drnK_take 3; (focus rfl); (focus rfl); (focus exact wt); (focus (decide +kernel)); (focus exact hsq); (focus rfl); (focus (first | exact qg3 | exact qs3))) | (apply drnK_take 4; (focus rfl); (focus rfl); (focus exact wt); (focus (decide +kernel)); (focus exact hsq); (focus rfl); (focus (first | exact qg4 | exact qs4))) | (apply drnK_end; (focus (decide +kernel)))))
        (refine cod_drawn_ks (Hq := [_, _]) [1, 2] [] rfl (by kernel_rfl) (by simp only [List.length_cons, List.length_nil, Nat.reduceAdd]; rfl) ?_)
        (repeat' (first | (apply drnK_take 1; (focus rfl); (focus rfl); (focus exact wt); (focus (decide +kernel)); (focus exact hsq); (focus rfl); (focus (exact qg1))) | (apply drnK_take 2; (focus rfl); (focus rfl); (focus exact wt); (focus (decide +kernel)); (focus exact hsq); (focus rfl); (focus (first | exact qg2 | exact qs2))) | (apply drnK_take 3; (focus rfl); (focus rfl); (focus exact wt); (focus (decide +kernel)); (focus exact hsq); (focus rfl); (focus (first | exact qg3 | exact qs3))) | (apply drnK_done; (focus (decide +kernel))) | (apply drnK_skip; (focus rfl)) | (apply drnK_wrap; (focus rfl))))
        (refine drnK_at 7 ?_; refine drnK_take _ rfl rfl wt (by decide +kernel) hsq rfl (q_slice_l (i := 1) rfl rfl rfl rfl (by omega)) ?_)
        (refine drnK_at 4 ?_; (first | refine drnK_ones _ (by rfl) (by rfl) (by kernel_rfl) wt (by rfl) (by exact opr_buildSlice rfl rfl rfl (by exact blda) rfl rfl (by decide) rfl) ?_ | refine drnK_onen _ (by rfl) (by rfl) (by kernel_rfl) wt (by exact opr_buildSlice rfl rfl rfl (by exact blda) rfl rfl (by decide) rfl) ?_); rintro _ _ ⟨q3, rfl, rfl⟩; refine ⟨(by first | exact fun h => absurd h (by decide) | exact fun _ => hsq), ?_⟩; (try dsimp only [List.cons_append, List.nil_append]))
        (refine drnK_at 5 ?_; (first | refine drnK_ones _ (by rfl) (by rfl) (by kernel_rfl) wt (by rfl) (by exact (by first | exact opr_append_lit0 (fX) [x] rfl rfl rfl (by exact pka) (by rfl) (by rfl) (by intro _; rfl) (by (first | exact one_fS | exact one_fI | exact one_fB | exact one_fP | exact one_fIIS | exact one_fIIIS | exact one_fII | exact one_fSI | exact one_fIIU | exact one_fY | exact one_fBl | exact one_fT | exact one_fE | assumption)) rfl (by simp only [List.length_cons, List.length_nil]; omega) (by (unfold maxLen); simp only [List.length_cons, List.length_nil]; omega) | exact opr_append_lit (fX) [x] rfl rfl rfl (by exact pka) (by exact pka) (by rfl) (by rfl) (by first | rfl | omega) (by intro _; rfl) (by (first | exact one_fS | exact one_fI | exact one_fB | exact one_fP | exact one_fIIS | exact one_fIIIS | exact one_fII | exact one_fSI | exact one_fIIU | exact one_fY | exact one_fBl | exact one_fT | exact one_fE | assumption)) rfl (by simp only [List.length_cons, List.length_nil]; omega) (by (unfold maxLen); simp only [List.length_cons, List.length_nil]; omega))) ?_ | refine drnK_onen _ (by rfl) (by rfl) (by kernel_rfl) wt (by exact (by first | exact opr_append_lit0 (fX) [x] rfl rfl rfl (by exact pka) (by rfl) (by rfl) (by intro _; rfl) (by (first | exact one_fS | exact one_fI | exact one_fB | exact one_fP | exact one_fIIS | exact one_fIIIS | exact one_fII | exact one_fSI | exact one_fIIU | exact one_fY | exact one_fBl | exact one_fT | exact one_fE | assumption)) rfl (by simp only [List.length_cons, List.length_nil]; omega) (by (unfold maxLen); simp only [List.length_cons, List.length_nil]; omega) | exact opr_append_lit (fX) [x] rfl rfl rfl (by exact pka) (by exact pka) (by rfl) (by rfl) (by first | rfl | omega) (by intro _; rfl) (by (first | exact one_fS | exact one_fI | exact one_fB | exact one_fP | exact one_fIIS | exact one_fIIIS | exact one_fII | exact one_fSI | exact one_fIIU | exact one_fY | exact one_fBl | exact one_fT | exact one_fE | assumption)) rfl (by simp only [List.length_cons, List.length_nil]; omega) (by (unfold maxLen); simp only [List.length_cons, List.length_nil]; omega))) ?_); rintro _ _ ⟨q4, c4, rfl, rfl⟩; refine ⟨(by first | exact fun h => absurd h (by decide) | exact fun _ => hsq), ?_⟩; (try dsimp only [List.cons_append, List.nil_append]))
        (repeat' (first | refine pst_block ?_ | (apply drnK_take 1; (focus rfl); (focus rfl); (focus exact wt); (focus (decide +kernel)); (focus exact hsq); (focus rfl); (focus (exact qg1))) | (apply drnK_end; (focus (decide +kernel))) | (apply drnK_done; (focus (decide +kernel)))))
        refine pst_weak (FSub.refl _) (sl_from (i := 1) (q := q1) (N := xs.length) (xs := xs) pka rfl (by omega)) ?_
        rw [← dx]
        refine pst_again ((xs.drop 1, subq q1 1 c1 2, c1 - 1, ys, q2, c2, zs ++ [x], q4, c4)) ?_ (FSub.of (by (try dsimp only); exact fsa)) (by (try dsimp only); exact hsa) ?_
        · exact ⟨hN, by dsimp only; omega, hy⟩
        · dsimp only; omega
      · have hN : mrg X Y = (zs ++ [y]) ++ mrg xs (ys.drop 1) := by
          rw [hI, ex, ey, mrg_gt hxy, ← ex, List.append_assoc]
          rfl
        clear hI ex ey
        (repeat' (first | (apply run_qg 1; (focus rfl); (focus exact wt); (focus rfl); (focus (exact qg1))) | (apply run_qg 4; (focus rfl); (focus exact wt); (focus rfl); (focus (first | exact qg4 | exact qs4))) | (apply run_qg 6; (focus rfl); (focus exact wt); (focus rfl); (focus (first | exact qs6 | exact qg6 | exact q_max rfl rfl rfl | exact q_sliceData rfl rfl (by omega) | exact q_sliceDataN rfl rfl | exact q_unsafeStringN rfl rfl rfl | exact q_cap_slice rfl rfl))) | refine cod_seq ?_ | refine cod_region ?_ | refine run_nil ?_ | refine pst_then ?_ | (apply cod_cond_t; (focus rfl)) | refine cod_block ?_ | refine cod_skip ?_))
        (refine cod_drawn_ks (Hq := [_, _]) [1, 2] [] rfl (by kernel_rfl) (by simp only [List.length_cons, List.length_nil, Nat.reduceAdd]; rfl) ?_)
        (repeat' (first | refine pst_then ?_ | (apply cod_cond_f; (focus rfl)) | (apply drnK_take 1; (focus rfl); (focus rfl); (focus exact wt); (focus (decide +kernel)); (focus exact hsq); (focus rfl); (focus (exact qg1))) | (apply drnK_take 2; (focus rfl); (focus rfl); (focus exact wt); (focus (decide +kernel)); (focus exact hsq); (focus rfl); (focus (first | exact qg2 | exact qs2))) | (apply drnK_take 3; (focus rfl); (focus rfl); (focus exact wt); (focus (decide +kernel)); (focus exact hsq); (focus rfl); (focus (first | exact qg3 | exact qs3))) | (apply drnK_take 4; (focus rfl); (focus rfl); (focus exact wt); (focus (decide +kernel)); (focus exact hsq); (focus rfl); (focus (first | exact qg4 | exact qs4))) | (apply drnK_end; (focus (decide +kernel)))))
        (refine cod_drawn_ks (Hq := [_, _]) [1, 2] [] rfl (by kernel_rfl) (by simp only [List.length_cons, List.length_nil, Nat.reduceAdd]; rfl) ?_)
        (repeat' (first | (apply drnK_take 1; (focus rfl); (focus rfl); (focus exact wt); (focus (decide +kernel)); (focus exact hsq); (focus rfl); (focus (exact qg1))) | (apply drnK_take 2; (focus rfl); (focus rfl); (focus exact wt); (focus (decide +kernel)); (focus exact hsq); (focus rfl); (focus (first | exact qg2 | exact qs2))) | (apply drnK_take 3; (focus rfl); (focus rfl); (focus exact wt); (focus (decide +kernel)); (focus exact hsq); (focus rfl); (focus (first | exact qg3 | exact qs3))) | (apply drnK_done; (focus (decide +kernel))) | (apply drnK_skip; (focus rfl)) | (apply drnK_wrap; (focus rfl))))
        (refine drnK_at 7 ?_; refine drnK_take _ rfl rfl wt (by decide +kernel) hsq rfl (q_slice_l (i := 1) rfl rfl rfl rfl (by omega)) ?_)
        (refine drnK_at 4 ?_; (first | refine drnK_ones _ (by rfl) (by rfl) (by kernel_rfl) wt (by rfl) (by exact opr_buildSlice rfl rfl rfl (by exact blda) rfl rfl (by decide) rfl) ?_ | refine drnK_onen _ (by rfl) (by rfl) (by kernel_rfl) wt (by exact opr_buildSlice rfl rfl rfl (by exact blda) rfl rfl (by decide) rfl) ?_); rintro _ _ ⟨q3, rfl, rfl⟩; refine ⟨(by first | exact fun h => absurd h (by decide) | exact fun _ => hsq), ?_⟩; (try dsimp only [List.cons_append, List.nil_append]))
        (refine drnK_at 5 ?_; (first | refine drnK_ones _ (by rfl) (by rfl) (by kernel_rfl) wt (by rfl) (by exact (by first | exact opr_append_lit0 (fX) [y] rfl rfl rfl (by exact pka) (by rfl) (by rfl) (by intro _; rfl) (by (first | exact one_fS | exact one_fI | exact one_fB | exact one_fP | exact one_fIIS | exact one_fIIIS | exact one_fII | exact one_fSI | exact one_fIIU | exact one_fY | exact one_fBl | exact one_fT | exact one_fE | assumption)) rfl (by simp only [List.length_cons, List.length_nil]; omega) (by (unfold maxLen); simp only [List.length_cons, List.length_nil]; omega) | exact opr_append_lit (fX) [y] rfl rfl rfl (by exact pka) (by exact pka) (by rfl) (by rfl) (by first | rfl | omega) (by intro _; rfl) (by (first | exact one_fS | exact one_fI | exact one_fB | exact one_fP | exact one_fIIS | exact one_fIIIS | exact one_fII | exact one_fSI | exact one_fIIU | exact one_fY | exact one_fBl | exact one_fT | exact one_fE | assumption)) rfl (by simp only [List.length_cons, List.length_nil]; omega) (by (unfold maxLen); simp only [List.length_cons, List.length_nil]; omega))) ?_ | refine drnK_onen _ (by rfl) (by rfl) (by kernel_rfl) wt (by exact (by first | exact opr_append_lit0 (fX) [y] rfl rfl rfl (by exact pka) (by rfl) (by rfl) (by intro _; rfl) (by (first | exact one_fS | exact one_fI | exact one_fB | exact one_fP | exact one_fIIS | exact one_fIIIS | exact one_fII | exact one_fSI | exact one_fIIU | exact one_fY | exact one_fBl | exact one_fT | exact one_fE | assumption)) rfl (by simp only [List.length_cons, List.length_nil]; omega) (by (unfold maxLen); simp only [List.length_cons, List.length_nil]; omega) | exact opr_append_lit (fX) [y] rfl rfl rfl (by exact pka) (by exact pka) (by rfl) (by rfl) (by first | rfl | omega) (by intro _; rfl) (by (first | exact one_fS | exact one_fI | exact one_fB | exact one_fP | exact one_fIIS | exact one_fIIIS | exact one_fII | exact one_fSI | exact one_fIIU | exact one_fY | exact one_fBl | exact one_fT | exact one_fE | assumption)) rfl (by simp only [List.length_cons, List.length_nil]; omega) (by (unfold maxLen); simp only [List.length_cons, List.length_nil]; omega))) ?_); rintro _ _ ⟨q4, c4, rfl, rfl⟩; refine ⟨(by first | exact fun h => absurd h (by decide) | exact fun _ => hsq), ?_⟩; (try dsimp only [List.cons_append, List.nil_append]))
        (repeat' (first | refine pst_block ?_ | (apply drnK_take 1; (focus rfl); (focus rfl); (focus exact wt); (focus (decide +kernel)); (focus exact hsq); (focus rfl); (focus (exact qg1))) | (apply drnK_end; (focus (decide +kernel))) | (apply drnK_done; (focus (decide +kernel)))))
        refine pst_weak (FSub.refl _) (sl_from (i := 1) (q := q2) (N := ys.length) (xs := ys) pka rfl (by omega)) ?_
        rw [← dy]
        refine pst_again ((xs, q1, c1, ys.drop 1, subq q2 1 c2 2, c2 - 1, zs ++ [y], q4, c4)) ?_ (FSub.of (by (try dsimp only); exact fsa)) (by (try dsimp only); exact hsa) ?_
        · exact ⟨hN, hx, by dsimp only; omega⟩
        · dsimp only; omega
end Go.Proofs.Ytppnaofebkpbkaa.huff
