/-
  path.Split: the walk.
-/
import Derived.Test.YtknclflgghnojaaPathNames
import Derived.Test.YtknclflgghnojaaSlRow
import Derived.Test.YtknclflgghnojaaFileCut
namespace Go.Proofs.Ytknclflgghnojaa.way
open Go.RowKit kit sl nam
open file (fT one_fT)
set_option linter.unusedVariables false
theorem nmsA_mem {x : List UInt8} (s : List UInt8) : ∀ cur, 47 ∉ cur → x ∈ nmsA cur s → x ≠ [] ∧ 47 ∉ x ∧ x.length ≤ cur.length + s.length := by
  induction s with
  | nil =>
    intro cur hc h
    rw [nmsA] at h
    split at h
    · exact absurd h List.not_mem_nil
    · rename_i hn
      rw [List.mem_singleton.1 h]
      exact ⟨hn, hc, by omega⟩
  | cons y t ih =>
    intro cur hc h
    rw [nmsA] at h
    have h0 := ih [] List.not_mem_nil
    split at h
    · split at h
      · have := h0 h; exact ⟨this.1, this.2.1, by have := this.2.2; simp at this ⊢; omega⟩
      · rename_i hn
        rcases List.mem_cons.1 h with h | h
        · rw [h]; exact ⟨hn, hc, by omega⟩
        · have := h0 h; exact ⟨this.1, this.2.1, by have := this.2.2; simp at this ⊢; omega⟩
    · rename_i hy
      have := ih (cur ++ [y]) (by simp [hc]; exact fun e => hy e.symm) h
      exact ⟨this.1, this.2.1, by have := this.2.2; simp at this ⊢; omega⟩
theorem nms_mem {x s : List UInt8} (h : x ∈ nms s) : x ≠ [] ∧ 47 ∉ x ∧ x.length ≤ s.length := by
  have := nmsA_mem s [] List.not_mem_nil h
  simpa using this
/-- the names of a way, one after the other -/
def splR : List (List UInt8) → List (List UInt8) → List (List UInt8) × Int
  | out, [] => (out, 0)
  | out, n :: t => if n = [46] then splR out t else if n = [46, 46] then splR out.dropLast t else if ¬ goodN n then ([], 11) else if out.length = 8 then ([], 2) else splR (out ++ [n]) t
def splitV (s : List UInt8) : List (List UInt8) × Int := if 200 < s.length then ([], 2) else if s.head? = some 47 then splR [] (nms s) else ([], 11)
section
variable {P : Program} {Q : Post} {n : Nat} {F : Frm} {H R : List Ent} {ro : Option Nat} {D : List Deferred}
theorem xcod_ownle {cd : Code} {q : Option Addr} {e sz m c : Nat} {xs : List Value} (p : Pick (own (.slice q m c) e sz m xs) H R) (k : m ≤ c → XCod ro D P Q n cd F H) : XCod ro D P Q n cd F H := fun a w hD ha hw => by
  have hw' := hw.perm p.perm
  obtain ⟨raw, h1, h2, h3, h4, h5⟩ := own_all (hw'.head : w.ownsRow 0 e sz (.slice q m c) m xs)
  exact k h4 a w hD ha hw
theorem own_less {q : Option Addr} {e sz m k c : Nat} {xs ys : List Value} (hk : k ≤ m) (hx : xs.take (k * sz) = ys) : HSub (own (.slice q m c) e sz m xs :: R) (own (.slice q k c) e sz k ys :: R) := fun w hw => by
  obtain ⟨raw, h1, h2, h3, h4, h5⟩ := own_all (hw.head : w.ownsRow 0 e sz (.slice q m c) m xs)
  have h6 : HeapOk (own (.slice q c c) e sz c raw :: R) w := HeapOk.upd hw rfl (Moved.refl _ _) h1 fun b hb => .inl (by
    have hb2 : (Value.slice q c c).ownBlock = some b := hb
    show (Value.slice q m c).ownBlock = some b
    cases q <;> exact hb2)
  refine own_front (Nat.le_trans hk h4) ?_ w h6
  rw [← hx, ← h3, List.take_take, Nat.min_eq_left (Nat.mul_le_mul_right _ hk)]
theorem own_lessP {q : Option Addr} {e sz m k c : Nat} {xs ys : List Value} (p : Pick (own (.slice q m c) e sz m xs) H R) (hk : k ≤ m) (hx : xs.take (k * sz) = ys) : HSub H (own (.slice q k c) e sz k ys :: R) := HSub.trans (hsub_perm p.perm) (own_less hk hx)
end
theorem flat_last (l : List (List UInt8)) : (flat fT l).take ((l.length - 1) * 1) = flat fT l.dropLast := by
  rw [Nat.mul_one]
  have h : ∀ l : List (List UInt8), flat fT l = l.map fun x => Value.string (str x) := fun l => by
    induction l with
    | nil => rfl
    | cons a l ih => show fT a ++ flat fT l = _; rw [ih]; rfl
  rw [h, h, ← List.map_take, List.dropLast_eq_take]
instance : Cal Try.prog 75 := ⟨by kernel_rfl⟩
attribute [local irreducible] XCod XRun XPst lrec dfr
attribute [local irreducible] box own sl old bptr eptr Qt Opr Run Cod Pst Drn
set_option maxRecDepth 100000 in
set_option maxHeartbeats 8000000 in
theorem hpref_any (s : List UInt8) (b : Bool) (hb : (s.head? = some 47) ↔ b = true) (hs : s.length ≤ 1000000) : Ct Try.prog 75 [.string (str s), .string (str [47])] [] fun v H' => v = .bool b ∧ H' = [] := by
  have h1 : ([47] : List UInt8).length = 1 := rfl
  cases s with
  | nil =>
    have : b = false := by cases b <;> simp at hb ⊢
    subst this
    have h2 : ([] : List UInt8).length = 0 := rfl
    (refine spec_enter Try.func75 Try.ntmps75 rfl rfl fun Fr => ?_; dsimp only [List.cons_append, List.nil_append, ini, Nat.reduceAdd])
    (repeat' (first | (apply run_qg 1; (focus rfl); (focus exact wt); (focus rfl); (focus (exact qg1))) | (apply run_qg 4; (focus rfl); (focus exact wt); (focus rfl); (focus (first | exact qg4 | exact qs4))) | (apply run_qg 6; (focus rfl); (focus exact wt); (focus rfl); (focus (first | exact qs6 | exact qg6 | exact q_max rfl rfl rfl | exact q_sliceData rfl rfl (by omega) | exact q_sliceDataN rfl rfl | exact q_unsafeStringN rfl rfl rfl | exact q_cap_slice rfl rfl))) | refine cod_seq ?_ | refine cod_region ?_ | refine run_nil ?_ | refine pst_then ?_ | refine cod_ret ?_ | (apply run_offs; (focus rfl); (focus rfl); (focus rfl))))
    exact pst_fin rfl (by exact resa) _ (⟨rfl, rfl⟩) (by exact hsa)
  | cons x t =>
    have hl : (x :: t).length = t.length + 1 := rfl
    have hq : (List.take 1 (x :: t) == [47]) = b := by
      show ([x] == [47]) = b
      simp at hb
      cases b <;> simp at hb ⊢ <;> exact hb
    (refine spec_enter Try.func75 Try.ntmps75 rfl rfl fun Fr => ?_; dsimp only [List.cons_append, List.nil_append, ini, Nat.reduceAdd])
    (repeat' (first | (apply run_qg 1; (focus rfl); (focus exact wt); (focus rfl); (focus (exact qg1))) | (apply run_qg 4; (focus rfl); (focus exact wt); (focus rfl); (focus (first | exact qg4 | exact qs4))) | (apply run_qg 6; (focus rfl); (focus exact wt); (focus rfl); (focus (first | exact qs6 | exact qg6 | exact q_max rfl rfl rfl | exact q_sliceData rfl rfl (by omega) | exact q_sliceDataN rfl rfl | exact q_unsafeStringN rfl rfl rfl | exact q_cap_slice rfl rfl))) | (apply run_qg 12; (focus rfl); (focus exact wt); (focus rfl); (focus (first | exact qs12 | exact q_cutp rfl rfl rfl rfl (by omega) (by omega) | exact q_slice_cap rfl rfl rfl rfl (by omega)))) | refine cod_seq ?_ | refine cod_region ?_ | refine run_nil ?_ | refine pst_then ?_ | refine cod_ret ?_))
    exact pst_fin rfl (by exact resa) _ (⟨rfl, rfl⟩) (by exact hsa)
set_option maxRecDepth 100000 in
set_option maxHeartbeats 8000000 in
theorem hasp_any (s : List UInt8) (b : Bool) (hb : (s.head? = some 47) ↔ b = true) (hs : s.length ≤ 1000000) : Ct Try.prog 59 [.string (str s), .string (str [47])] [] fun v H' => v = .bool b ∧ H' = [] := by
  have C0 := hpref_any s b hb hs
  (refine spec_enter Try.func59 Try.ntmps59 rfl rfl fun Fr => ?_; dsimp only [List.cons_append, List.nil_append, ini, Nat.reduceAdd])
  (repeat' (first | (apply run_qg 1; (focus rfl); (focus exact wt); (focus rfl); (focus (exact qg1))) | refine cod_seq ?_ | refine cod_region ?_ | refine run_nil ?_ | refine pst_then ?_ | refine cod_ret ?_ | (apply run_osg 7; (focus rfl); (focus exact wt); (focus rfl); (focus (exact opr_call_ls (by rfl) (C0 ..) (by rfl) lpa)); (rintro _ _ ⟨rfl, rfl⟩))))
  exact pst_fin rfl (by exact resa) _ (⟨rfl, rfl⟩) (by exact hsa)
/-- what is answered -/
def SplitOut (s : List UInt8) (v : Value) (H' : List Ent) : Prop := ∃ q c, v = .tuple #[.slice q (splitV s).1.length c, .int .i64 (splitV s).2] ∧ H' = [own (.slice q (splitV s).1.length c) 9 1 (splitV s).1.length (flat fT (splitV s).1)]
/-- before the names that are left -/
def SJ (s : List UInt8) (b b2 b3 : Nat) (Fr : List Ent) (pre : List (List UInt8)) (A : List Ent) : Prop := ∃ out q c, A = box b [.slice q out.length c] 22 :: own (.slice q out.length c) 9 1 out.length (flat fT out) :: box b2 [.slice none 0 0] 22 :: box b3 [.int .i64 0] 25 :: Fr ∧ out.length ≤ 8 ∧ ∀ post, nms s = pre ++ post → splR [] (nms s) = splR out post
/-- at a name that may not be -/
def SX (s : List UInt8) (b2 b3 : Nat) (Fr : List Ent) (c : Code) (A : List Ent) : Prop := ∃ e, c = .ret ∧ A = box b2 [.slice none 0 0] 22 :: box b3 [.int .i64 e] 25 :: Fr ∧ splR [] (nms s) = ([], e)
set_option maxRecDepth 100000 in
set_option maxHeartbeats 8000000 in
theorem split_any (s : List UInt8) (hs : s.length ≤ maxLen) : Ct Try.prog 33 [.string (str s)] [] (SplitOut s) := by
  unfold SplitOut
  have hm : maxLen = 9223372036854775807 := rfl
  by_cases h1 : 200 < s.length
  · have e : splitV s = ([], 2) := by unfold splitV; rw [if_pos h1]
    rw [e]
    refine xspec_enter Try.func33 Try.ntmps33 rfl rfl fun Fr => ?_
    dsimp only [List.cons_append, List.nil_append, ini, Nat.reduceAdd]
    (repeat' (first | (apply xrun_qg 0; (focus rfl); (focus exact wt); (focus rfl); (focus (exact qg1))) | (apply xrun_qg 3; (focus rfl); (focus exact wt); (focus rfl); (focus (first | exact qg4 | exact qs4))) | (apply xrun_qg 5; (focus rfl); (focus exact wt); (focus rfl); (focus (first | exact qs6 | exact qg6 | exact q_max rfl rfl rfl | exact q_sliceData rfl rfl (by omega) | exact q_sliceDataN rfl rfl | exact q_unsafeStringN rfl rfl rfl | exact q_cap_slice rfl rfl))) | refine xcod_seq ?_ | refine xcod_region ?_ | refine xrun_nil ?_ | refine xpst_then ?_ | (apply xcod_cond_t; (focus rfl)) | refine xcod_ret ?_ | refine xpst_then_ret ?_ | (apply xrun_osg 7; (focus rfl); (focus exact wt); (focus rfl); (focus (exact opr_new rfl)); (rintro _ _ ⟨b, rfl, rfl⟩)) | (apply xrun_ong 8; (focus rfl); (focus exact wt); (focus (exact opr_store_box_one rfl rfl rfl rfl (by exact pka) rfl (by exact seta))); (rintro _ _ ⟨rfl, rfl⟩))))
    exact xpst_fin rfl (by exact resa) _ (⟨none, 0, rfl, rfl⟩) (by exact hsa)
  · by_cases h2 : s.head? = some 47
    · have C0 := hasp_any s true (by simp [h2]) (by omega)
      have C1 := names_any s
      have e : splitV s = splR [] (nms s) := by unfold splitV; rw [if_neg h1, if_pos h2]
      rw [e]
      refine xspec_enter Try.func33 Try.ntmps33 rfl rfl fun Fr => ?_
      dsimp only [List.cons_append, List.nil_append, ini, Nat.reduceAdd]
      (repeat' (first | (apply xrun_qg 0; (focus rfl); (focus exact wt); (focus rfl); (focus (exact qg1))) | (apply xrun_qg 3; (focus rfl); (focus exact wt); (focus rfl); (focus (first | exact qg4 | exact qs4))) | (apply xrun_qg 5; (focus rfl); (focus exact wt); (focus rfl); (focus (first | exact qs6 | exact qg6 | exact q_max rfl rfl rfl | exact q_sliceData rfl rfl (by omega) | exact q_sliceDataN rfl rfl | exact q_unsafeStringN rfl rfl rfl | exact q_cap_slice rfl rfl))) | refine xcod_seq ?_ | refine xcod_region ?_ | refine xrun_nil ?_ | refine xpst_then ?_ | (apply xcod_cond_f; (focus rfl)) | refine xcod_skip ?_ | (apply xrun_osg 7; (focus rfl); (focus exact wt); (focus rfl); (focus (exact opr_new rfl)); (rintro _ _ ⟨b, rfl, rfl⟩)) | (apply xrun_osg 6; (focus rfl); (focus exact wt); (focus rfl); (focus (exact opr_call_ls (by rfl) (C0 ..) (by rfl) lpa)); (rintro _ _ ⟨rfl, rfl⟩))))
      rename_i b2 b3
      (refine xrun_os wt rfl (opr_call_l rfl (C1) rfl (by exact lpa)) (by intro c h; cases h) ?_; rintro _ _ ⟨_, ⟨b5, rfl, rfl⟩, rfl⟩; try dsimp only [List.cons_append, List.nil_append])
      (repeat' (first | refine xrun_nil ?_ | refine xpst_then ?_ | refine xcod_block ?_))
      refine xcod_heap (H' := box b5 [.string (str s)] 9 :: box b [.slice none 0 0] 22 :: own (.slice none 0 0) 9 1 0 [] :: box b2 [.slice none 0 0] 22 :: box b3 [.int .i64 0] 25 :: Fr) hsa ?_
      refine xcod_range (Hd := SJ s b b2 b3 Fr (nms s)) (Hx := SX s b2 b3 Fr) rfl ?_ ?_ ?_
      · intro l dd fn T hT
        refine it_names (by omega) (SJ s b b2 b3 Fr) (SX s b2 b3 Fr) ?_ ?_
        · rintro pre x post A hpost ⟨out, q, c, rfl, hlen, hsp⟩
          have hx := (nms_mem (s := s) (x := x) (by rw [hpost]; simp)).2.2
          have G0 := good_any x (by omega)
          refine roundX_of hT rfl fun Fr2 => ?_
          dsimp only [List.cons_append]
          (repeat' (first | (apply xrun_qg 0; (focus rfl); (focus exact wt); (focus rfl); (focus (exact qg1))) | refine xcod_region ?_ | refine xrun_nil ?_))
          refine xpst_begin (HSub.refl _) ?_
          refine xcod_ownle pka fun hmc => ?_
          have hstep := hsp _ hpost
          rw [splR] at hstep
          by_cases x1 : x = [46]
          · rw [if_pos x1] at hstep
            have e1 : (x == [46]) = true := by rw [x1]; rfl
            (repeat' (first | (apply xrun_qg 0; (focus rfl); (focus exact wt); (focus rfl); (focus (exact qg1))) | (apply xrun_qg 3; (focus rfl); (focus exact wt); (focus rfl); (focus (first | exact qg4 | exact qs4))) | refine xcod_seq ?_ | refine xcod_region ?_ | refine xrun_nil ?_ | refine xpst_then ?_ | (apply xcod_cond_t; (focus rfl)) | refine xcod_block ?_ | refine xcod_skip ?_ | refine xpst_block ?_))
            refine xpst_round _ ⟨out, q, c, rfl, hlen, fun post2 h => ?_⟩ hsa
            rw [hstep]
            rw [hpost] at h
            simp at h
            rw [h]
          · rw [if_neg x1] at hstep
            have e1 : (x == [46]) = false := by simpa using x1
            by_cases x2 : x = [46, 46]
            · rw [if_pos x2] at hstep
              have e2 : (x == [46, 46]) = true := by rw [x2]; rfl
              (repeat' (first | (apply xrun_qg 0; (focus rfl); (focus exact wt); (focus rfl); (focus (exact qg1))) | (apply xrun_qg 1; (focus rfl); (focus exact wt); (focus rfl); (focus (first | exact qg2 | exact qs2))) | (apply xrun_qg 3; (focus rfl); (focus exact wt); (focus rfl); (focus (first | exact qg4 | exact qs4))) | (apply xrun_qg 5; (focus rfl); (focus exact wt); (focus rfl); (focus (first | exact qs6 | exact qg6 | exact q_max rfl rfl rfl | exact q_sliceData rfl rfl (by omega) | exact q_sliceDataN rfl rfl | exact q_unsafeStringN rfl rfl rfl | exact q_cap_slice rfl rfl))) | refine xcod_seq ?_ | refine xcod_region ?_ | refine xrun_nil ?_ | refine xpst_then ?_ | (apply xcod_cond_t; (focus rfl)) | (apply xcod_cond_f; (focus rfl)) | refine xcod_block ?_))
              refine xrun_qg 11 rfl wt rfl (q_slice_cap (m := out.length - 1) rfl rfl rfl (by omega) (by omega)) ?_
              (repeat' (first | refine xrun_nil ?_ | refine xpst_block ?_ | (apply xrun_ong 8; (focus rfl); (focus exact wt); (focus (exact opr_store_box_one rfl rfl rfl rfl (by exact pka) rfl (by exact seta))); (rintro _ _ ⟨rfl, rfl⟩))))
              refine xpst_weak (FSub.refl _) (own_lessP (xs := flat fT out) (m := out.length) (k := out.length - 1) pka (by omega) (flat_last out)) ?_
              refine xpst_round _ ⟨out.dropLast, q, c, rfl, by rw [List.length_dropLast]; omega, fun post2 h => ?_⟩ ?_
              · rw [hstep]
                rw [hpost] at h
                simp at h
                rw [h]
              · rw [List.length_dropLast]
                exact hsa
            · rw [if_neg x2] at hstep
              have e2 : (x == [46, 46]) = false := by simpa using x2
              by_cases x3 : goodN x
              · rw [if_neg (fun h => h x3)] at hstep
                have g0 : goodE x = 0 := by unfold goodE; rw [if_pos x3]
                rw [g0] at G0
                by_cases x4 : out.length = 8
                · rw [if_pos x4] at hstep
                  (repeat' (first | (apply xrun_qg 0; (focus rfl); (focus exact wt); (focus rfl); (focus (exact qg1))) | (apply xrun_qg 1; (focus rfl); (focus exact wt); (focus rfl); (focus (first | exact qg2 | exact qs2))) | (apply xrun_qg 3; (focus rfl); (focus exact wt); (focus rfl); (focus (first | exact qg4 | exact qs4))) | (apply xrun_qg 5; (focus rfl); (focus exact wt); (focus rfl); (focus (first | exact qs6 | exact qg6 | exact q_max rfl rfl rfl | exact q_sliceData rfl rfl (by omega) | exact q_sliceDataN rfl rfl | exact q_unsafeStringN rfl rfl rfl | exact q_cap_slice rfl rfl))) | refine xcod_seq ?_ | refine xcod_region ?_ | refine xrun_nil ?_ | refine xpst_then ?_ | (apply xcod_cond_t; (focus rfl)) | (apply xcod_cond_f; (focus rfl)) | refine xcod_block ?_ | refine xcod_ret ?_ | refine xpst_block_ret ?_ | (apply xrun_ong 8; (focus rfl); (focus exact wt); (focus (exact opr_store_box_one rfl rfl rfl rfl (by exact pka) rfl (by exact seta))); (rintro _ _ ⟨rfl, rfl⟩)) | (apply xrun_osg 6; (focus rfl); (focus exact wt); (focus rfl); (focus (exact opr_call_ls (by rfl) (G0 ..) (by rfl) lpa)); (rintro _ _ ⟨rfl, rfl⟩))))
                  exact xpst_round_ret _ ⟨2, rfl, rfl, hstep⟩ hsa
                · rw [if_neg x4] at hstep
                  (repeat' (first | (apply xrun_qg 0; (focus rfl); (focus exact wt); (focus rfl); (focus (exact qg1))) | (apply xrun_qg 1; (focus rfl); (focus exact wt); (focus rfl); (focus (first | exact qg2 | exact qs2))) | (apply xrun_qg 3; (focus rfl); (focus exact wt); (focus rfl); (focus (first | exact qg4 | exact qs4))) | (apply xrun_qg 5; (focus rfl); (focus exact wt); (focus rfl); (focus (first | exact qs6 | exact qg6 | exact q_max rfl rfl rfl | exact q_sliceData rfl rfl (by omega) | exact q_sliceDataN rfl rfl | exact q_unsafeStringN rfl rfl rfl | exact q_cap_slice rfl rfl))) | refine xcod_seq ?_ | refine xcod_region ?_ | refine xrun_nil ?_ | refine xpst_then ?_ | (apply xcod_cond_f; (focus rfl)) | refine xcod_block ?_ | (apply xrun_osg 9; (focus rfl); (focus exact wt); (focus rfl); (focus (exact opr_buildSlice rfl rfl rfl (by exact blda) rfl rfl (by decide) rfl)); (rintro _ _ ⟨q, rfl, rfl⟩)) | (apply xrun_osg 6; (focus rfl); (focus exact wt); (focus rfl); (focus (exact opr_call_ls (by rfl) (G0 ..) (by rfl) lpa)); (rintro _ _ ⟨rfl, rfl⟩))))
                  refine xrun_os wt rfl (by first | exact opr_append_lit0 (fT) [x] rfl rfl rfl (by exact pka) (by rfl) (by rfl) (by intro _; rfl) (by (first | exact one_fS | exact one_fI | exact one_fB | exact one_fP | exact one_fIIS | exact one_fIIIS | exact one_fII | exact one_fSI | exact one_fIIU | exact one_fY | exact one_fBl | exact one_fT | exact one_fE | assumption)) rfl (by simp only [List.length_cons, List.length_nil]; omega) (by (unfold maxLen); simp only [List.length_cons, List.length_nil]; omega) | exact opr_append_lit (fT) [x] rfl rfl rfl (by exact pka) (by exact pka) (by rfl) (by rfl) (by first | rfl | omega) (by intro _; rfl) (by (first | exact one_fS | exact one_fI | exact one_fB | exact one_fP | exact one_fIIS | exact one_fIIIS | exact one_fII | exact one_fSI | exact one_fIIU | exact one_fY | exact one_fBl | exact one_fT | exact one_fE | assumption)) rfl (by simp only [List.length_cons, List.length_nil]; omega) (by (unfold maxLen); simp only [List.length_cons, List.length_nil]; omega)) (by intro c h; cases h) ?_
                  rintro _ _ ⟨q2, c2, rfl, rfl⟩
                  (repeat' (first | refine xrun_nil ?_ | refine xpst_block ?_ | (apply xrun_ong 8; (focus rfl); (focus exact wt); (focus (exact opr_store_box_one rfl rfl rfl rfl (by exact pka) rfl (by exact seta))); (rintro _ _ ⟨rfl, rfl⟩))))
                  refine xpst_round _ ⟨out ++ [x], q2, c2, rfl, by rw [List.length_append, List.length_singleton]; omega, fun post2 h => ?_⟩ hsa
                  rw [hstep]
                  rw [hpost] at h
                  simp at h
                  rw [h]
              · rw [if_pos x3] at hstep
                have g0 : goodE x = 11 := by unfold goodE; rw [if_neg x3]
                rw [g0] at G0
                (repeat' (first | (apply xrun_qg 0; (focus rfl); (focus exact wt); (focus rfl); (focus (exact qg1))) | (apply xrun_qg 3; (focus rfl); (focus exact wt); (focus rfl); (focus (first | exact qg4 | exact qs4))) | refine xcod_seq ?_ | refine xcod_region ?_ | refine xrun_nil ?_ | refine xpst_then ?_ | (apply xcod_cond_t; (focus rfl)) | (apply xcod_cond_f; (focus rfl)) | refine xcod_block ?_ | refine xcod_ret ?_ | refine xpst_block_ret ?_ | (apply xrun_ong 8; (focus rfl); (focus exact wt); (focus (exact opr_store_box_one rfl rfl rfl rfl (by exact pka) rfl (by exact seta))); (rintro _ _ ⟨rfl, rfl⟩)) | (apply xrun_osg 6; (focus rfl); (focus exact wt); (focus rfl); (focus (exact opr_call_ls (by rfl) (G0 ..) (by rfl) lpa)); (rintro _ _ ⟨rfl, rfl⟩))))
                exact xpst_round_ret _ ⟨11, rfl, rfl, hstep⟩ hsa
        · exact ⟨[], none, 0, rfl, by simp, fun post h => by rw [h]; rfl⟩
      · rintro dd L ⟨out, q, c, rfl, hlen, hsp⟩
        have hfin := hsp [] (by simp)
        rw [splR] at hfin
        rw [hfin]
        (repeat' (first | (apply xrun_qg 1; (focus rfl); (focus exact wt); (focus rfl); (focus (first | exact qg2 | exact qs2))) | refine xcod_seq ?_ | refine xcod_region ?_ | refine xrun_nil ?_ | refine xpst_then ?_ | refine xcod_ret ?_ | refine xpst_block ?_ | (apply xrun_ong 8; (focus rfl); (focus exact wt); (focus (exact opr_store_box_one rfl rfl rfl rfl (by exact pka) rfl (by exact seta))); (rintro _ _ ⟨rfl, rfl⟩))))
        exact xpst_fin_mark rfl (HSub.of_picks_rest (.out (by exact pka) (.nil (List.Sublist.refl _)))) (by exact resa) _ (⟨q, c, rfl, rfl⟩) (by exact hsa)
      · rintro c dd L ⟨e2, rfl, rfl, hfin⟩
        rw [hfin]
        (repeat' (first | refine xcod_ret ?_ | refine xpst_block_ret ?_ | refine xpst_then_ret ?_))
        exact xpst_fin_mark rfl (HSub.of_picks_rest (.out (by exact pka) (.nil (List.Sublist.refl _)))) (by exact resa) _ (⟨none, 0, rfl, rfl⟩) (by exact hsa)
    · have C0 := hasp_any s false (by simp [h2]) (by omega)
      have e : splitV s = ([], 11) := by unfold splitV; rw [if_neg h1, if_neg h2]
      rw [e]
      refine xspec_enter Try.func33 Try.ntmps33 rfl rfl fun Fr => ?_
      dsimp only [List.cons_append, List.nil_append, ini, Nat.reduceAdd]
      (repeat' (first | (apply xrun_qg 0; (focus rfl); (focus exact wt); (focus rfl); (focus (exact qg1))) | (apply xrun_qg 3; (focus rfl); (focus exact wt); (focus rfl); (focus (first | exact qg4 | exact qs4))) | (apply xrun_qg 5; (focus rfl); (focus exact wt); (focus rfl); (focus (first | exact qs6 | exact qg6 | exact q_max rfl rfl rfl | exact q_sliceData rfl rfl (by omega) | exact q_sliceDataN rfl rfl | exact q_unsafeStringN rfl rfl rfl | exact q_cap_slice rfl rfl))) | refine xcod_seq ?_ | refine xcod_region ?_ | refine xrun_nil ?_ | refine xpst_then ?_ | (apply xcod_cond_t; (focus rfl)) | (apply xcod_cond_f; (focus rfl)) | refine xcod_ret ?_ | refine xcod_skip ?_ | refine xpst_then_ret ?_ | (apply xrun_osg 7; (focus rfl); (focus exact wt); (focus rfl); (focus (exact opr_new rfl)); (rintro _ _ ⟨b, rfl, rfl⟩)) | (apply xrun_ong 8; (focus rfl); (focus exact wt); (focus (exact opr_store_box_one rfl rfl rfl rfl (by exact pka) rfl (by exact seta))); (rintro _ _ ⟨rfl, rfl⟩)) | (apply xrun_osg 6; (focus rfl); (focus exact wt); (focus rfl); (focus (exact opr_call_ls (by rfl) (C0 ..) (by rfl) lpa)); (rintro _ _ ⟨rfl, rfl⟩))))
      exact xpst_fin rfl (by exact resa) _ (⟨none, 0, rfl, rfl⟩) (by exact hsa)
end Go.Proofs.Ytknclflgghnojaa.way
