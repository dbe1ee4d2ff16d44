/-
  linenref.Bits: the walk.
-/
import Derived.Test.YtnejhldagkennaaCodeLaw2
import Derived.Test.YtnejhldagkennaaSlRow
namespace Go.Proofs.Ytnejhldagkennaa.code
open Go.RowKit kit sl lens
set_option linter.unusedVariables false
theorem and1i_fin : ∀ n : Fin 256, bits BinOp.and IntKind.i64 ((n.val : Nat) : Int) 1 = ((n.val % 2 : Nat) : Int) := by decide +kernel
theorem bits_snoc (s : List UInt8) (k : Nat) : ((List.range (k + 1)).map fun k => ((bitS s k : Nat) : Int)) = ((List.range k).map fun k => ((bitS s k : Nat) : Int)) ++ [((bitS s k : Nat) : Int)] := by
  rw [List.range_succ, List.map_append]
  rfl
def bitsN (s : List UInt8) (k : Nat) : List Int := (List.range k).map fun k => ((bitS s k : Nat) : Int)
theorem bitsN_len (s : List UInt8) (k : Nat) : (bitsN s k).length = k := by simp [bitsN]
theorem cod_ownle {P : Program} {Q : Post} {n : Nat} {F : Frm} {H R : List Ent} {cd : Code} {q : Option Addr} {e sz m c : Nat} {xs : List Value} (p : Pick (own (.slice q m c) e sz m xs) H R) (k : m ≤ c → Cod P Q n cd F H) : Cod P Q n cd F H := fun a w ha hw => by
  have hw' := hw.perm p.perm
  obtain ⟨raw, h1, h2, h3, h4, h5⟩ := own_all (hw'.head : w.ownsRow 0 e sz (.slice q m c) m xs)
  exact k h4 a w ha hw
theorem own_less {R : List Ent} {q : Option Addr} {e sz m k c : Nat} {xs ys : List Value} (hk : k ≤ m) (hx : xs.take (k * sz) = ys) : HSub (own (.slice q m c) e sz m xs :: R) (own (.slice q k c) e sz k ys :: R) := fun w hw => by
  obtain ⟨raw, h1, h2, h3, h4, h5⟩ := own_all (hw.head : w.ownsRow 0 e sz (.slice q m c) m xs)
  have h6 : HeapOk (own (.slice q c c) e sz c raw :: R) w := HeapOk.upd hw rfl (Moved.refl _ _) h1 fun b hb => .inl (by
    have hb2 : (Value.slice q c c).ownBlock = some b := hb
    show (Value.slice q m c).ownBlock = some b
    cases q <;> exact hb2)
  refine own_front (Nat.le_trans hk h4) ?_ w h6
  rw [← hx, ← h3, List.take_take, Nat.min_eq_left (Nat.mul_le_mul_right _ hk)]
/-- the first k of an own row, read from now on -/
theorem own_first {R : List Ent} {q : Option Addr} {e k c : Nat} {xs : List Int} (hk : k ≤ xs.length) : HSub (own (.slice q xs.length c) e 1 xs.length (flat fI xs) :: R) (sl 1 (.slice q k c) ((xs.take k).map fI) :: R) := by
  refine HSub.trans (own_less (k := k) (ys := flat fI (xs.take k)) hk ?_) (pick_sl .here (fun _ => rfl) (by rw [List.length_take, Nat.min_eq_left hk]))
  rw [flat_fI, flat_fI, Nat.mul_one, List.map_take]
attribute [local irreducible] box own sl old bptr eptr Qt Opr Run Cod Pst Drn
set_option maxRecDepth 100000 in
set_option maxHeartbeats 8000000 in
theorem bits_any (s : List UInt8) (hs : s.length ≤ 2000000) : Ct Try.prog 21 [.string (str s)] [] fun v H' => ∃ q c, (v = .slice q (bitsL s).length c ∧ (bitsL s).length ≤ c) ∧ H' = [own (.slice q (bitsL s).length c) 3 1 (bitsL s).length (flat fI (bitsL s))] := by
  (refine spec_enter Try.func21 Try.ntmps21 rfl rfl fun Fr => ?_; dsimp only [List.cons_append, List.nil_append, ini, Nat.reduceAdd])
  (repeat' (first | (apply run_qg 1; (focus rfl); (focus exact wt); (focus rfl); (focus (exact qg1))) | (apply run_qg 6; (focus rfl); (focus exact wt); (focus rfl); (focus (first | exact qs6 | exact qg6 | exact q_max rfl rfl rfl | exact q_sliceData rfl rfl (by omega) | exact q_sliceDataN rfl rfl | exact q_unsafeStringN rfl rfl rfl | exact q_cap_slice rfl rfl))) | refine cod_seq ?_ | refine cod_region ?_ | refine run_nil ?_ | refine pst_then ?_ | refine cod_block ?_))
  refine cod_heap (heap_nil _ 3 1) ?_
  (refine cod_loop_rw (σ := Nat × Option Addr × Nat × List Int) (fun x => x.1 ≤ s.length ∧ x.2.2.2 = bitsN s (8 * x.1)) (fun x => [(8, .int .i64 (x.1 : Int)), (3, .slice x.2.1 x.2.2.2.length x.2.2.1)]) (fun x => [own (.slice x.2.1 x.2.2.2.length x.2.2.1) 3 1 x.2.2.2.length (flat fI x.2.2.2)]) _ (fun x => s.length - x.1) ((0, none, 0, [])) (by exact ⟨Nat.zero_le _, rfl⟩) (by exact fsa) (by (first | exact HSub.of_picks_rest (by exact pca))) (fun ⟨i, q, c, out⟩ ⟨hi, ho⟩ => ?_); dsimp only [List.cons_append, List.nil_append])
  dsimp only at hi ho ⊢
  rcases Nat.lt_or_ge i s.length with hlt | hge
  · obtain ⟨y, hy⟩ : ∃ y, s[i]? = some y := ⟨_, List.getElem?_eq_getElem hlt⟩
    have hy8 := UInt8.toNat_lt y
    (repeat' (first | (apply run_qg 1; (focus rfl); (focus exact wt); (focus rfl); (focus (exact qg1))) | (apply run_qg 4; (focus rfl); (focus exact wt); (focus rfl); (focus (first | exact qg4 | exact qs4))) | refine cod_seq ?_ | refine cod_region ?_ | refine run_nil ?_ | refine pst_then ?_ | (apply cod_cond_t; (focus rfl)) | refine cod_block ?_ | refine cod_skip ?_))
    (refine cod_loop_rw (σ := Nat × Option Addr × Nat × List Int) (fun x => x.1 ≤ 8 ∧ x.2.2.2 = bitsN s (8 * i + x.1)) (fun x => [(11, .int .i64 (x.1 : Int)), (3, .slice x.2.1 x.2.2.2.length x.2.2.1)]) (fun x => [own (.slice x.2.1 x.2.2.2.length x.2.2.1) 3 1 x.2.2.2.length (flat fI x.2.2.2)]) _ (fun x => 8 - x.1) ((0, q, c, out)) (by exact ⟨Nat.zero_le _, ho⟩) (by exact fsa) (by (first | exact HSub.of_picks_rest (by exact pca))) (fun ⟨k, q2, c2, out2⟩ ⟨hk, ho2⟩ => ?_); dsimp only [List.cons_append, List.nil_append])
    dsimp only at hk ho2 ⊢
    rcases Nat.lt_or_ge k 8 with hlt2 | hge2
    · obtain ⟨z, hz⟩ : ∃ z, y.toNat / 2 ^ k = z := ⟨_, rfl⟩
      have hz256 : z < 256 := by
        rw [← hz]
        exact Nat.lt_of_le_of_lt (Nat.div_le_self _ _) hy8
      have hshr : (y.toNat : Int) / 2 ^ k = (z : Int) := by rw [← hz]; push_cast; rfl
      have hand : bits BinOp.and IntKind.i64 (z : Int) 1 = ((z % 2 : Nat) : Int) := and1i_fin ⟨z, hz256⟩
      have hbit : bitS s (8 * i + k) = z % 2 := by
        unfold bitS
        rw [show (8 * i + k) / 8 = i by omega, show (8 * i + k) % 8 = k by omega, List.getD_eq_getElem?_getD, hy]
        show y.toNat / 2 ^ k % 2 = _
        rw [hz]
      have hbn : bitsN s (8 * i + (k + 1)) = out2 ++ [((z % 2 : Nat) : Int)] := by
        rw [ho2, ← hbit]
        exact bits_snoc s (8 * i + k)
      have hol : out2.length ≤ 16000000 := by rw [ho2, bitsN_len]; omega
      have hkk : (k : Int) = (k : Int) := rfl
      (repeat' (first | (apply run_qg 4; (focus rfl); (focus exact wt); (focus rfl); (focus (first | exact q_shln rfl rfl rfl (by assumption) (by omega) (by assumption) | exact q_shrn rfl rfl rfl (by assumption) (by omega) (by assumption)))) | (apply run_qg 1; (focus rfl); (focus exact wt); (focus rfl); (focus (exact qg1))) | (apply run_qg 3; (focus rfl); (focus exact wt); (focus rfl); (focus (first | exact qg3 | exact qs3))) | (apply run_qg 4; (focus rfl); (focus exact wt); (focus rfl); (focus (first | exact qg4 | exact qs4))) | (apply run_qg 11; (focus rfl); (focus exact wt); (focus rfl); (focus (exact qs11))) | refine cod_seq ?_ | refine cod_region ?_ | refine run_nil ?_ | refine pst_then ?_ | (apply cod_cond_t; (focus rfl)) | refine cod_block ?_ | refine cod_skip ?_ | (apply run_osg 10; (focus rfl); (focus exact wt); (focus rfl); (focus (exact opr_buildSlice rfl rfl rfl (by exact blda) rfl rfl (by decide) rfl)); (rintro _ _ ⟨q, rfl, rfl⟩))))
      refine run_os wt rfl (by first | exact opr_append_lit0 (fI) [((z % 2 : Nat) : Int)] rfl rfl rfl (by exact pka) (by rfl) (by rfl) (by intro _; rfl) (by (first | exact one_fS | exact one_fI | exact one_fB | exact one_fP | exact one_fIIS | exact one_fIIIS | exact one_fII | exact one_fSI | exact one_fIIU | exact one_fY | exact one_fBl | exact one_fT | exact one_fE | assumption)) rfl (by simp only [List.length_cons, List.length_nil]; omega) (by (unfold maxLen); simp only [List.length_cons, List.length_nil]; omega) | exact opr_append_lit (fI) [((z % 2 : Nat) : Int)] rfl rfl rfl (by exact pka) (by exact pka) (by rfl) (by rfl) (by first | rfl | omega) (by intro _; rfl) (by (first | exact one_fS | exact one_fI | exact one_fB | exact one_fP | exact one_fIIS | exact one_fIIIS | exact one_fII | exact one_fSI | exact one_fIIU | exact one_fY | exact one_fBl | exact one_fT | exact one_fE | assumption)) rfl (by simp only [List.length_cons, List.length_nil]; omega) (by (unfold maxLen); simp only [List.length_cons, List.length_nil]; omega)) ?_
      rintro _ _ ⟨q4, c4, rfl, rfl⟩
      (repeat' (first | (apply run_qg 1; (focus rfl); (focus exact wt); (focus rfl); (focus (exact qg1))) | (apply run_qg 4; (focus rfl); (focus exact wt); (focus rfl); (focus (first | exact qg4 | exact qs4))) | refine cod_region ?_ | refine run_nil ?_ | refine pst_then ?_ | refine pst_block ?_))
      refine pst_again ((k + 1, q4, c4, out2 ++ [((z % 2 : Nat) : Int)])) ?_ (FSub.of (by (try dsimp only); exact fsa)) (by (try dsimp only); exact hsa) ?_
      · exact ⟨hlt2, hbn.symm⟩
      · dsimp only; omega
    · have hk8 : k = 8 := by omega
      subst hk8
      (repeat' (first | (apply run_qg 1; (focus rfl); (focus exact wt); (focus rfl); (focus (exact qg1))) | (apply run_qg 4; (focus rfl); (focus exact wt); (focus rfl); (focus (first | exact qg4 | exact qs4))) | refine cod_seq ?_ | refine cod_region ?_ | refine run_nil ?_ | refine pst_then ?_ | (apply cod_cond_f; (focus rfl)) | refine cod_exit ?_ | refine pst_block_here ?_ | refine pst_then_exit ?_ | refine pst_block ?_))
      refine pst_again ((i + 1, q2, c2, out2)) ?_ (FSub.of (by (try dsimp only); exact fsa)) (by (try dsimp only); exact hsa) ?_
      · exact ⟨hlt, ho2⟩
      · dsimp only; omega
  · have hil : i = s.length := by omega
    subst hil
    have hbl : bitsL s = out := ho.symm
    rw [hbl]
    refine cod_ownle pka fun hmc => ?_
    (repeat' (first | (apply run_qg 1; (focus rfl); (focus exact wt); (focus rfl); (focus (exact qg1))) | (apply run_qg 4; (focus rfl); (focus exact wt); (focus rfl); (focus (first | exact qg4 | exact qs4))) | refine cod_seq ?_ | refine cod_region ?_ | refine run_nil ?_ | refine pst_then ?_ | (apply cod_cond_f; (focus rfl)) | refine cod_exit ?_ | refine cod_ret ?_ | refine pst_block_here ?_ | refine pst_then_exit ?_))
    exact pst_fin rfl (by exact resa) _ (⟨q, c, ⟨rfl, hmc⟩, rfl⟩) (by exact hsa)
end Go.Proofs.Ytnejhldagkennaa.code
