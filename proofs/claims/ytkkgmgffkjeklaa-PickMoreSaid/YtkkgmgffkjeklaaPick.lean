/-
  pick: the queue's methods, container/heap's Init, Pop and down on it: the walks.
-/
import Derived.Test.YtkkgmgffkjeklaaPickLaw
import Derived.Test.YtkkgmgffkjeklaaSlIface
import Derived.Test.YtkkgmgffkjeklaaTypes
import Derived.Test.YtkkgmgffkjeklaaSlRow2
import Derived.Test.YtkkgmgffkjeklaaSlDrnP
namespace Go.Proofs.Ytkkgmgffkjeklaa.pick
open Go.RowKit kit sl
set_option linter.unusedVariables false
def fO (p : One) : List Value := [.int .i64 p.1, .int .i64 p.2.1, .int .i64 p.2.2]
theorem one_fO (p : One) : ∀ u ∈ fO p, u.oneCell' = true := by simp [fO, Value.oneCell']
instance : Conc Try.prog 84 := ⟨by kernel_rfl⟩
instance : Conc Try.prog 82 := ⟨by kernel_rfl⟩
instance : Ptr Try.prog 84 80 := ⟨by kernel_rfl⟩
instance : MRow Try.prog 84 "Len" 33 false := ⟨by kernel_rfl, ⟨Try.prog.types.size - 1, by kernel_rfl⟩⟩
instance : MRow Try.prog 84 "Less" 133 false := ⟨by kernel_rfl, ⟨Try.prog.types.size - 1, by kernel_rfl⟩⟩
instance : MRow Try.prog 84 "Swap" 134 false := ⟨by kernel_rfl, ⟨Try.prog.types.size - 1, by kernel_rfl⟩⟩
instance : MRow Try.prog 84 "Pop" 135 true := ⟨by kernel_rfl, ⟨Try.prog.types.size - 1, by kernel_rfl⟩⟩
theorem x_bd {x y : One} (hx : okO x) (hy : okO y) : (0 ≤ (1000 - x.2.1) * (x.2.2 + 1) ∧ (1000 - x.2.1) * (x.2.2 + 1) ≤ 2147483648000) ∧ 0 ≤ (1000 - x.2.1) * (x.2.2 + 1) * (1000 + y.2.1) ∧ (1000 - x.2.1) * (x.2.2 + 1) * (1000 + y.2.1) ≤ 4294967296000000 := by
  unfold okO at hx hy
  have h1 : 0 ≤ (1000 - x.2.1) * (x.2.2 + 1) := Int.mul_nonneg (by omega) (by omega)
  have h2 : (1000 - x.2.1) * (x.2.2 + 1) ≤ 1000 * 2147483648 := Int.mul_le_mul (by omega) (by omega) (by omega) (by omega)
  have h3 : 0 ≤ (1000 - x.2.1) * (x.2.2 + 1) * (1000 + y.2.1) := Int.mul_nonneg h1 (by omega)
  have h4 : (1000 - x.2.1) * (x.2.2 + 1) * (1000 + y.2.1) ≤ 2147483648000 * 2000 := Int.mul_le_mul (by omega) (by omega) (by omega) (by omega)
  exact ⟨⟨h1, by omega⟩, h3, by omega⟩
theorem own_less {P : Program} {R : List Ent} {q : Option Addr} {e sz m k c : Nat} {xs ys : List Value} (hk : k ≤ m) (hx : xs.take (k * sz) = ys) : HSub (own (.slice q m c) e sz m xs :: R) (own (.slice q k c) e sz k ys :: R) := fun w hw => by
  have hw' := hw
  obtain ⟨raw, h1, h2, h3, h4, h5⟩ := own_all (hw.head : w.ownsRow 0 e sz (.slice q m c) m xs)
  have h6 : HeapOk (own (.slice q c c) e sz c raw :: R) w := HeapOk.upd hw rfl (Moved.refl _ _) h1 fun b hb => .inl (by
    have hb2 : (Value.slice q c c).ownBlock = some b := hb
    show (Value.slice q m c).ownBlock = some b
    cases q <;> exact hb2)
  refine own_front (Nat.le_trans hk h4) ?_ w h6
  rw [← hx, ← h3, List.take_take, Nat.min_eq_left (Nat.mul_le_mul_right _ hk)]
theorem own_lessP {P : Program} {H R : List Ent} {q : Option Addr} {e sz m k c : Nat} {xs ys : List Value} (p : Pick (own (.slice q m c) e sz m xs) H R) (hk : k ≤ m) (hx : xs.take (k * sz) = ys) : HSub H (own (.slice q k c) e sz k ys :: R) := HSub.trans (hsub_perm p.perm) (own_less (P := P) hk hx)
theorem run_ownle {P : Program} {ops : Array Oper} {Q : Post} {n : Nat} {F : Frm} {H R : List Ent} {l : List Oper} {q : Option Addr} {e sz m c : Nat} {xs : List Value} (p : Pick (own (.slice q m c) e sz m xs) H R) (k : m ≤ c → Run P ops Q n l F H) : Run P ops Q n l F H := fun a w ha hw => by
  have hw' := hw.perm p.perm
  obtain ⟨raw, h1, h2, h3, h4, h5⟩ := own_all (hw'.head : w.ownsRow 0 e sz (.slice q m c) m xs)
  exact k h4 a w ha hw
theorem flat_dropLast (l : List One) : (flat fO l).take ((l.length - 1) * 3) = flat fO l.dropLast := by
  induction l with
  | nil => rfl
  | cons x l ih =>
    cases l with
    | nil => rfl
    | cons y l =>
      rw [List.dropLast_cons_of_ne_nil (by simp)]
      show (fO x ++ flat fO (y :: l)).take _ = fO x ++ flat fO (y :: l).dropLast
      rw [← ih]
      have h3 : (fO x).length = 3 := rfl
      rw [List.take_append, h3, List.take_of_length_le (by rw [h3]; simp; omega)]
      congr 2
      simp
      omega
attribute [local irreducible] box own sl old bptr eptr Qt Opr Run Cod Pst Drn
set_option maxRecDepth 100000 in
set_option maxHeartbeats 8000000 in
theorem len_any (q : Option Addr) (m c : Nat) : Ct Try.prog 33 [.slice q m c] [] fun v H' => v = .int .i64 (m : Int) ∧ H' = [] := by
  (refine spec_enter Try.func33 Try.ntmps33 rfl rfl fun Fr => ?_; dsimp only [List.cons_append, List.nil_append, ini, Nat.reduceAdd])
  (repeat' (first | (apply run_qg 1; (focus rfl); (focus exact wt); (focus rfl); (focus (exact qg1))) | (apply run_qg 6; (focus rfl); (focus exact wt); (focus rfl); (focus (first | exact qs6 | exact qg6 | exact q_max rfl rfl rfl | exact q_sliceData rfl rfl (by omega) | exact q_sliceDataN rfl rfl | exact q_unsafeStringN rfl rfl rfl | exact q_cap_slice rfl rfl))) | refine cod_seq ?_ | refine cod_region ?_ | refine run_nil ?_ | refine pst_then ?_ | refine cod_ret ?_))
  exact pst_fin rfl (by exact resa) _ (⟨rfl, rfl⟩) (by exact hsa)
set_option maxRecDepth 100000 in
set_option maxHeartbeats 8000000 in
theorem less_any (q : Option Addr) (c : Nat) (l : List One) (i j : Nat) {x y : One} (hi : l[i]? = some x) (hj : l[j]? = some y) (hx : okO x) (hy : okO y) :
    Ct Try.prog 133 [.slice q l.length c, .int .i64 (i : Int), .int .i64 (j : Int)] [sl 3 (.slice q l.length c) (l.map fO)] fun v H' => v = .bool (better x y) ∧ H' = [] := by
  have hil : i < l.length := (List.getElem?_eq_some_iff.1 hi).1
  have hjl : j < l.length := (List.getElem?_eq_some_iff.1 hj).1
  obtain ⟨⟨b1, b2⟩, b3, b4⟩ := x_bd hx hy
  obtain ⟨⟨d1, d2⟩, d3, d4⟩ := x_bd hy hx
  obtain ⟨r, hr⟩ : ∃ r, better x y = r := ⟨_, rfl⟩
  rw [hr]
  have hb : (r = true ∧ (xO y x < xO x y ∨ (xO x y = xO y x ∧ x.1 < y.1))) ∨ (r = false ∧ (xO x y < xO y x ∨ (xO x y = xO y x ∧ y.1 ≤ x.1))) := by
    cases r with
    | true => exact .inl ⟨rfl, better_iff.1 hr⟩
    | false => exact .inr ⟨rfl, better_not.1 hr⟩
  unfold okO at hx hy
  unfold xO at hb
  clear hr
  rcases hb with ⟨rfl, hb | ⟨hb, hb2⟩⟩ | ⟨rfl, hb | ⟨hb, hb2⟩⟩
  · (refine spec_enter Try.func133 Try.ntmps133 rfl rfl fun Fr => ?_; dsimp only [List.cons_append, List.nil_append, ini, Nat.reduceAdd])
    (repeat' (first | (apply run_qg 1; (focus rfl); (focus exact wt); (focus rfl); (focus (exact qg1))) | (apply run_qg 2; (focus rfl); (focus exact wt); (focus rfl); (focus (first | exact qg2 | exact qs2))) | (apply run_qg 3; (focus rfl); (focus exact wt); (focus rfl); (focus (first | exact qg3 | exact qs3))) | (apply run_qg 4; (focus rfl); (focus exact wt); (focus rfl); (focus (first | exact qg4 | exact qs4))) | refine cod_seq ?_ | refine cod_region ?_ | refine run_nil ?_ | refine pst_then ?_ | refine cod_ret ?_ | (apply run_offs; (focus rfl); (focus rfl); (focus rfl)) | (apply run_offus; (focus rfl); (focus rfl); (focus rfl)) | (apply cod_drawn_k; (focus kernel_rfl); (focus (simp only [List.length_cons, List.length_nil, Nat.reduceAdd]; rfl))) | (apply drnK_take 1; (focus rfl); (focus rfl); (focus exact wt); (focus (decide +kernel)); (focus exact hsq); (focus rfl); (focus (exact qg1))) | (apply drnK_take 2; (focus rfl); (focus rfl); (focus exact wt); (focus (decide +kernel)); (focus exact hsq); (focus rfl); (focus (first | exact qg2 | exact qs2))) | (apply drnK_take 3; (focus rfl); (focus rfl); (focus exact wt); (focus (decide +kernel)); (focus exact hsq); (focus rfl); (focus (first | exact qg3 | exact qs3))) | (apply drnK_ones 8; (focus rfl); (focus rfl); (focus (decide +kernel)); (focus exact wt); (focus rfl); (focus (exact opr_new rfl)); (rintro _ _ ⟨b, rfl, rfl⟩; refine ⟨(by first | exact fun h => absurd h (by decide) | exact fun _ => hsq), ?_⟩)) | (apply drnK_onen 9; (focus rfl); (focus rfl); (focus (decide +kernel)); (focus exact wt); (focus (exact opr_store_box_agg rfl rfl rfl (by exact pka) rfl rfl rfl (by exact spla))); (rintro _ _ ⟨rfl, rfl⟩; refine ⟨(by first | exact fun h => absurd h (by decide) | exact fun _ => hsq), ?_⟩)) | (apply drnK_end; (focus (decide +kernel))) | (apply drnK_done; (focus (decide +kernel))) | (refine drnK_at 8 ?_; refine drnK_two 9 (by decide +kernel) ?_ ?_) | (apply drnI_s 1 _; (focus rfl); (focus exact wt); (focus rfl); (focus (exact opr_new rfl)); (rintro _ _ ⟨b, rfl, rfl⟩; refine ⟨(by first | exact fun h => absurd h (by decide) | exact fun _ => hsq), ?_⟩))))
    all_goals exact pst_fin rfl (by exact resa) _ (⟨rfl, rfl⟩) (by exact hsa)
  · (refine spec_enter Try.func133 Try.ntmps133 rfl rfl fun Fr => ?_; dsimp only [List.cons_append, List.nil_append, ini, Nat.reduceAdd])
    (repeat' (first | (apply run_qg 1; (focus rfl); (focus exact wt); (focus rfl); (focus (exact qg1))) | (apply run_qg 2; (focus rfl); (focus exact wt); (focus rfl); (focus (first | exact qg2 | exact qs2))) | (apply run_qg 3; (focus rfl); (focus exact wt); (focus rfl); (focus (first | exact qg3 | exact qs3))) | (apply run_qg 4; (focus rfl); (focus exact wt); (focus rfl); (focus (first | exact qg4 | exact qs4))) | refine cod_seq ?_ | refine cod_region ?_ | refine run_nil ?_ | refine pst_then ?_ | refine cod_ret ?_ | (apply cod_drawn_k; (focus kernel_rfl); (focus (simp only [List.length_cons, List.length_nil, Nat.reduceAdd]; rfl))) | (apply drnK_take 1; (focus rfl); (focus rfl); (focus exact wt); (focus (decide +kernel)); (focus exact hsq); (focus rfl); (focus (exact qg1))) | (apply drnK_take 2; (focus rfl); (focus rfl); (focus exact wt); (focus (decide +kernel)); (focus exact hsq); (focus rfl); (focus (first | exact qg2 | exact qs2))) | (apply drnK_take 3; (focus rfl); (focus rfl); (focus exact wt); (focus (decide +kernel)); (focus exact hsq); (focus rfl); (focus (first | exact qg3 | exact qs3))) | (apply drnK_ones 8; (focus rfl); (focus rfl); (focus (decide +kernel)); (focus exact wt); (focus rfl); (focus (exact opr_new rfl)); (rintro _ _ ⟨b, rfl, rfl⟩; refine ⟨(by first | exact fun h => absurd h (by decide) | exact fun _ => hsq), ?_⟩)) | (apply drnK_onen 9; (focus rfl); (focus rfl); (focus (decide +kernel)); (focus exact wt); (focus (exact opr_store_box_agg rfl rfl rfl (by exact pka) rfl rfl rfl (by exact spla))); (rintro _ _ ⟨rfl, rfl⟩; refine ⟨(by first | exact fun h => absurd h (by decide) | exact fun _ => hsq), ?_⟩)) | (apply drnK_end; (focus (decide +kernel))) | (apply drnK_done; (focus (decide +kernel))) | (refine drnK_at 8 ?_; refine drnK_two 9 (by decide +kernel) ?_ ?_) | (apply drnI_s 1 _; (focus rfl); (focus exact wt); (focus rfl); (focus (exact opr_new rfl)); (rintro _ _ ⟨b, rfl, rfl⟩; refine ⟨(by first | exact fun h => absurd h (by decide) | exact fun _ => hsq), ?_⟩))))
    all_goals exact pst_fin rfl (by exact resa) _ (⟨rfl, rfl⟩) (by exact hsa)
  · (refine spec_enter Try.func133 Try.ntmps133 rfl rfl fun Fr => ?_; dsimp only [List.cons_append, List.nil_append, ini, Nat.reduceAdd])
    (repeat' (first | (apply run_qg 1; (focus rfl); (focus exact wt); (focus rfl); (focus (exact qg1))) | (apply run_qg 2; (focus rfl); (focus exact wt); (focus rfl); (focus (first | exact qg2 | exact qs2))) | (apply run_qg 3; (focus rfl); (focus exact wt); (focus rfl); (focus (first | exact qg3 | exact qs3))) | (apply run_qg 4; (focus rfl); (focus exact wt); (focus rfl); (focus (first | exact qg4 | exact qs4))) | refine cod_seq ?_ | refine cod_region ?_ | refine run_nil ?_ | refine pst_then ?_ | refine cod_ret ?_ | (apply run_offs; (focus rfl); (focus rfl); (focus rfl)) | (apply cod_drawn_k; (focus kernel_rfl); (focus (simp only [List.length_cons, List.length_nil, Nat.reduceAdd]; rfl))) | (apply drnK_take 1; (focus rfl); (focus rfl); (focus exact wt); (focus (decide +kernel)); (focus exact hsq); (focus rfl); (focus (exact qg1))) | (apply drnK_take 2; (focus rfl); (focus rfl); (focus exact wt); (focus (decide +kernel)); (focus exact hsq); (focus rfl); (focus (first | exact qg2 | exact qs2))) | (apply drnK_take 3; (focus rfl); (focus rfl); (focus exact wt); (focus (decide +kernel)); (focus exact hsq); (focus rfl); (focus (first | exact qg3 | exact qs3))) | (apply drnK_ones 8; (focus rfl); (focus rfl); (focus (decide +kernel)); (focus exact wt); (focus rfl); (focus (exact opr_new rfl)); (rintro _ _ ⟨b, rfl, rfl⟩; refine ⟨(by first | exact fun h => absurd h (by decide) | exact fun _ => hsq), ?_⟩)) | (apply drnK_onen 9; (focus rfl); (focus rfl); (focus (decide +kernel)); (focus exact wt); (focus (exact opr_store_box_agg rfl rfl rfl (by exact pka) rfl rfl rfl (by exact spla))); (rintro _ _ ⟨rfl, rfl⟩; refine ⟨(by first | exact fun h => absurd h (by decide) | exact fun _ => hsq), ?_⟩)) | (apply drnK_end; (focus (decide +kernel))) | (apply drnK_done; (focus (decide +kernel))) | (refine drnK_at 8 ?_; refine drnK_two 9 (by decide +kernel) ?_ ?_) | (apply drnI_s 1 _; (focus rfl); (focus exact wt); (focus rfl); (focus (exact opr_new rfl)); (rintro _ _ ⟨b, rfl, rfl⟩; refine ⟨(by first | exact fun h => absurd h (by decide) | exact fun _ => hsq), ?_⟩))))
    all_goals exact pst_fin rfl (by exact resa) _ (⟨rfl, rfl⟩) (by exact hsa)
  · (refine spec_enter Try.func133 Try.ntmps133 rfl rfl fun Fr => ?_; dsimp only [List.cons_append, List.nil_append, ini, Nat.reduceAdd])
    (repeat' (first | (apply run_qg 1; (focus rfl); (focus exact wt); (focus rfl); (focus (exact qg1))) | (apply run_qg 2; (focus rfl); (focus exact wt); (focus rfl); (focus (first | exact qg2 | exact qs2))) | (apply run_qg 3; (focus rfl); (focus exact wt); (focus rfl); (focus (first | exact qg3 | exact qs3))) | (apply run_qg 4; (focus rfl); (focus exact wt); (focus rfl); (focus (first | exact qg4 | exact qs4))) | refine cod_seq ?_ | refine cod_region ?_ | refine run_nil ?_ | refine pst_then ?_ | refine cod_ret ?_ | (apply cod_drawn_k; (focus kernel_rfl); (focus (simp only [List.length_cons, List.length_nil, Nat.reduceAdd]; rfl))) | (apply drnK_take 1; (focus rfl); (focus rfl); (focus exact wt); (focus (decide +kernel)); (focus exact hsq); (focus rfl); (focus (exact qg1))) | (apply drnK_take 2; (focus rfl); (focus rfl); (focus exact wt); (focus (decide +kernel)); (focus exact hsq); (focus rfl); (focus (first | exact qg2 | exact qs2))) | (apply drnK_take 3; (focus rfl); (focus rfl); (focus exact wt); (focus (decide +kernel)); (focus exact hsq); (focus rfl); (focus (first | exact qg3 | exact qs3))) | (apply drnK_ones 8; (focus rfl); (focus rfl); (focus (decide +kernel)); (focus exact wt); (focus rfl); (focus (exact opr_new rfl)); (rintro _ _ ⟨b, rfl, rfl⟩; refine ⟨(by first | exact fun h => absurd h (by decide) | exact fun _ => hsq), ?_⟩)) | (apply drnK_onen 9; (focus rfl); (focus rfl); (focus (decide +kernel)); (focus exact wt); (focus (exact opr_store_box_agg rfl rfl rfl (by exact pka) rfl rfl rfl (by exact spla))); (rintro _ _ ⟨rfl, rfl⟩; refine ⟨(by first | exact fun h => absurd h (by decide) | exact fun _ => hsq), ?_⟩)) | (apply drnK_end; (focus (decide +kernel))) | (apply drnK_done; (focus (decide +kernel))) | (refine drnK_at 8 ?_; refine drnK_two 9 (by decide +kernel) ?_ ?_) | (apply drnI_s 1 _; (focus rfl); (focus exact wt); (focus rfl); (focus (exact opr_new rfl)); (rintro _ _ ⟨b, rfl, rfl⟩; refine ⟨(by first | exact fun h => absurd h (by decide) | exact fun _ => hsq), ?_⟩))))
    all_goals exact pst_fin rfl (by exact resa) _ (⟨rfl, rfl⟩) (by exact hsa)
set_option maxRecDepth 100000 in
set_option maxHeartbeats 8000000 in
theorem swap_any (q : Option Addr) (c : Nat) (l : List One) (i j : Nat) {x y : One} (hi : l[i]? = some x) (hj : l[j]? = some y) (hne : i ≠ j) :
    Ct Try.prog 134 [.slice q l.length c, .int .i64 (i : Int), .int .i64 (j : Int)] [own (.slice q l.length c) 82 3 l.length (flat fO l)] fun v H' => v = .tuple #[] ∧ H' = [own (.slice q l.length c) 82 3 l.length (flat fO (swp l i j x y))] := by
  have hil : i < l.length := (List.getElem?_eq_some_iff.1 hi).1
  have hjl : j < l.length := (List.getElem?_eq_some_iff.1 hj).1
  have hj2 : (l.set i y)[j]? = some y := by rw [List.getElem?_set_ne hne]; exact hj
  unfold swp
  (refine spec_enter Try.func134 Try.ntmps134 rfl rfl fun Fr => ?_; dsimp only [List.cons_append, List.nil_append, ini, Nat.reduceAdd])
  refine cod_shapeN pka (by omega) ?_
  rintro g rfl hc
  refine cod_pre (by kernel_rfl) (by simp only [List.length_cons, List.length_nil, Nat.reduceAdd]; rfl) ?_
  refine pre_take 0 rfl wt (by decide +kernel) rfl (q_move rfl rfl) ?_
  refine pre_take 1 rfl wt (by decide +kernel) rfl (q_move rfl rfl) ?_
  refine pre_take 2 rfl wt (by decide +kernel) rfl (q_move rfl rfl) ?_
  refine pre_take 3 rfl wt (by decide +kernel) rfl (q_move rfl rfl) ?_
  refine pre_take 4 rfl wt (by decide +kernel) rfl (q_move rfl rfl) ?_
  refine pre_take 5 rfl wt (by decide +kernel) rfl (q_move rfl rfl) ?_
  refine pre_take 6 rfl wt (by decide +kernel) rfl (q_index_at (i := j) rfl rfl rfl hjl) ?_
  refine pre_take 8 rfl wt (by decide +kernel) rfl (q_move rfl rfl) ?_
  refine pre_take 9 rfl wt (by decide +kernel) rfl (q_move rfl rfl) ?_
  refine pre_take 10 rfl wt (by decide +kernel) rfl (q_index_at (i := i) rfl rfl rfl hil) ?_
  refine pre_drn (Hq := [own (.slice (some ⟨g, 0, none⟩) l.length c) 82 3 l.length (flat fO l)]) (nk := [13, 14, 15]) (r := 1) (i := 0) ?_
  (repeat' (first | (apply drnK_take 2; (focus rfl); (focus rfl); (focus exact wt); (focus (decide +kernel)); (focus exact hsq); (focus rfl); (focus (first | exact qg2 | exact qs2))) | (apply drnK_take 3; (focus rfl); (focus rfl); (focus exact wt); (focus (decide +kernel)); (focus exact hsq); (focus rfl); (focus (first | exact qg3 | exact qs3))) | (apply drnK_done; (focus (decide +kernel))) | (apply drnK_skip; (focus rfl)) | (apply drnK_wrap; (focus rfl))))
  (refine drnK_at 13 ?_; (first | refine drnK_ones _ (by rfl) (by rfl) (by kernel_rfl) wt (by rfl) (by exact (opr_store_ownm (f := fO) (q' := y) rfl rfl rfl rfl (by exact pka) rfl (by omega) (by intro _; rfl) (by assumption) rfl rfl (by rfl))) ?_ | refine drnK_onen _ (by rfl) (by rfl) (by kernel_rfl) wt (by exact (opr_store_ownm (f := fO) (q' := y) rfl rfl rfl rfl (by exact pka) rfl (by omega) (by intro _; rfl) (by assumption) rfl rfl (by rfl))) ?_); rintro _ _ ⟨rfl, rfl⟩; refine ⟨(by first | exact fun h => absurd h (by decide) | exact fun _ => hsq), ?_⟩; (try dsimp only [List.cons_append, List.nil_append]))
  (refine drnK_at 14 ?_; (first | refine drnK_ones _ (by rfl) (by rfl) (by kernel_rfl) wt (by rfl) (by exact (opr_of_qt (q_index_own (i := j) rfl rfl rfl pka (by omega) (by omega)))) ?_ | refine drnK_onen _ (by rfl) (by rfl) (by kernel_rfl) wt (by exact (opr_of_qt (q_index_own (i := j) rfl rfl rfl pka (by omega) (by omega)))) ?_); rintro _ _ ⟨rfl, rfl⟩; refine ⟨(by first | exact fun h => absurd h (by decide) | exact fun _ => hsq), ?_⟩; (try dsimp only [List.cons_append, List.nil_append]))
  (refine drnK_at 15 ?_; (first | refine drnK_ones _ (by rfl) (by rfl) (by kernel_rfl) wt (by rfl) (by exact (opr_store_ownm (f := fO) (q' := x) rfl rfl rfl rfl (by exact pka) rfl (by omega) (by intro _; rfl) (by assumption) rfl rfl (by rfl))) ?_ | refine drnK_onen _ (by rfl) (by rfl) (by kernel_rfl) wt (by exact (opr_store_ownm (f := fO) (q' := x) rfl rfl rfl rfl (by exact pka) rfl (by omega) (by intro _; rfl) (by assumption) rfl rfl (by rfl))) ?_); rintro _ _ ⟨rfl, rfl⟩; refine ⟨(by first | exact fun h => absurd h (by decide) | exact fun _ => hsq), ?_⟩; (try dsimp only [List.cons_append, List.nil_append]))
  (repeat' (first | (apply drnK_end; (focus (decide +kernel)))))
  exact pst_fin_end rfl (by exact resa) _ (⟨rfl, rfl⟩) (by exact hsa)
set_option maxRecDepth 100000 in
set_option maxHeartbeats 8000000 in
theorem pop_any (b : Nat) (q : Option Addr) (c m : Nat) (l : List One) {x : One} (hm : l.length = m + 1) (hx : l[m]? = some x) (hl : m ≤ 1000) :
    Ct Try.prog 135 [bptr b 0] [box b [.slice q l.length c] 80, own (.slice q l.length c) 82 3 l.length (flat fO l)] fun v H' => v = .iface 82 (.agg (fO x).toArray) ∧ H' = [box b [.slice q m c] 80, own (.slice q m c) 82 3 m (flat fO l.dropLast)] := by
  have hmI : (l.length : Int) - 1 = (m : Int) := by omega
  have hdl := flat_dropLast l
  rw [show l.length - 1 = m by omega] at hdl
  (refine spec_enter Try.func135 Try.ntmps135 rfl rfl fun Fr => ?_; dsimp only [List.cons_append, List.nil_append, ini, Nat.reduceAdd])
  (repeat' (first | (apply run_qg 1; (focus rfl); (focus exact wt); (focus rfl); (focus (exact qg1))) | (apply run_qg 2; (focus rfl); (focus exact wt); (focus rfl); (focus (first | exact qg2 | exact qs2))) | (apply run_qg 3; (focus rfl); (focus exact wt); (focus rfl); (focus (first | exact qg3 | exact qs3))) | (apply run_qg 4; (focus rfl); (focus exact wt); (focus rfl); (focus (first | exact qg4 | exact qs4))) | (apply run_qg 6; (focus rfl); (focus exact wt); (focus rfl); (focus (first | exact qs6 | exact qg6 | exact q_max rfl rfl rfl | exact q_sliceData rfl rfl (by omega) | exact q_sliceDataN rfl rfl | exact q_unsafeStringN rfl rfl rfl | exact q_cap_slice rfl rfl))) | refine cod_seq ?_ | refine cod_region ?_ | refine run_nil ?_ | refine pst_then ?_))
  rw [hmI]
  (repeat' (first | (apply run_qg 1; (focus rfl); (focus exact wt); (focus rfl); (focus (exact qg1))) | (apply run_qg 2; (focus rfl); (focus exact wt); (focus rfl); (focus (first | exact qg2 | exact qs2))) | (apply run_qg 3; (focus rfl); (focus exact wt); (focus rfl); (focus (first | exact qg3 | exact qs3))) | (apply run_qg 4; (focus rfl); (focus exact wt); (focus rfl); (focus (first | exact qg4 | exact qs4))) | (apply run_qg 6; (focus rfl); (focus exact wt); (focus rfl); (focus (first | exact qs6 | exact qg6 | exact q_max rfl rfl rfl | exact q_sliceData rfl rfl (by omega) | exact q_sliceDataN rfl rfl | exact q_unsafeStringN rfl rfl rfl | exact q_cap_slice rfl rfl))) | refine cod_seq ?_ | refine cod_region ?_ | refine run_nil ?_ | refine pst_then ?_ | (apply run_osg 8; (focus rfl); (focus exact wt); (focus rfl); (focus (exact opr_new rfl)); (rintro _ _ ⟨b, rfl, rfl⟩)) | (apply run_ong 9; (focus rfl); (focus exact wt); (focus (exact opr_store_box_agg rfl rfl rfl (by exact pka) rfl rfl rfl (by exact spla))); (rintro _ _ ⟨rfl, rfl⟩))))
  refine run_ownle (q := q) (m := l.length) (c := c) (e := 82) (sz := 3) (xs := flat fO l) pka fun hmc => ?_
  rw [hmI]
  refine run_qg 12 rfl wt rfl (q_slice_cap (m := m) rfl rfl rfl (by omega) (by omega)) ?_
  (repeat' (first | (apply run_qg 2; (focus rfl); (focus exact wt); (focus rfl); (focus (first | exact qg2 | exact qs2))) | (apply run_qg 3; (focus rfl); (focus exact wt); (focus rfl); (focus (first | exact qg3 | exact qs3))) | refine cod_seq ?_ | refine cod_region ?_ | refine run_nil ?_ | refine pst_then ?_ | (apply run_ong 9; (focus rfl); (focus exact wt); (focus (exact opr_store_box_one rfl rfl rfl rfl (by exact pka) rfl (by exact seta))); (rintro _ _ ⟨rfl, rfl⟩))))
  refine run_qs wt rfl (q_mkIface rfl rfl) ?_
  (repeat' (first | (apply run_qg 1; (focus rfl); (focus exact wt); (focus rfl); (focus (exact qg1))) | refine run_nil ?_ | refine pst_then ?_ | refine cod_ret ?_))
  refine pst_weak (FSub.refl _) (own_lessP (P := Try.prog) (q := q) (m := l.length) (k := m) (c := c) (e := 82) (sz := 3) (xs := flat fO l) pka (by omega) hdl) ?_
  exact pst_fin rfl (by exact resa) _ (⟨rfl, rfl⟩) (by exact hsa)
set_option maxRecDepth 100000 in
set_option maxHeartbeats 8000000 in
theorem swap_same (q : Option Addr) (c : Nat) (l : List One) (i : Nat) {x : One} (hi : l[i]? = some x) :
    Ct Try.prog 134 [.slice q l.length c, .int .i64 (i : Int), .int .i64 (i : Int)] [own (.slice q l.length c) 82 3 l.length (flat fO l)] fun v H' => v = .tuple #[] ∧ H' = [own (.slice q l.length c) 82 3 l.length (flat fO l)] := by
  have hil : i < l.length := (List.getElem?_eq_some_iff.1 hi).1
  have e0 : l.set i x = l := by
    apply List.ext_getElem?
    intro k
    rw [List.getElem?_set]
    by_cases h : i = k
    · subst h; rw [if_pos rfl, if_pos hil, hi]
    · rw [if_neg h]
  (refine spec_enter Try.func134 Try.ntmps134 rfl rfl fun Fr => ?_; dsimp only [List.cons_append, List.nil_append, ini, Nat.reduceAdd])
  refine cod_shapeN pka (by omega) ?_
  rintro g rfl hc
  refine cod_pre (by kernel_rfl) (by simp only [List.length_cons, List.length_nil, Nat.reduceAdd]; rfl) ?_
  refine pre_take 0 rfl wt (by decide +kernel) rfl (q_move rfl rfl) ?_
  refine pre_take 1 rfl wt (by decide +kernel) rfl (q_move rfl rfl) ?_
  refine pre_take 2 rfl wt (by decide +kernel) rfl (q_move rfl rfl) ?_
  refine pre_take 3 rfl wt (by decide +kernel) rfl (q_move rfl rfl) ?_
  refine pre_take 4 rfl wt (by decide +kernel) rfl (q_move rfl rfl) ?_
  refine pre_take 5 rfl wt (by decide +kernel) rfl (q_move rfl rfl) ?_
  refine pre_take 6 rfl wt (by decide +kernel) rfl (q_index_at (i := i) rfl rfl rfl hil) ?_
  refine pre_take 8 rfl wt (by decide +kernel) rfl (q_move rfl rfl) ?_
  refine pre_take 9 rfl wt (by decide +kernel) rfl (q_move rfl rfl) ?_
  refine pre_take 10 rfl wt (by decide +kernel) rfl (q_index_at (i := i) rfl rfl rfl hil) ?_
  refine pre_drn (Hq := [own (.slice (some ⟨g, 0, none⟩) l.length c) 82 3 l.length (flat fO l)]) (nk := [13, 14, 15]) (r := 1) (i := 0) ?_
  (repeat' (first | (apply drnK_take 2; (focus rfl); (focus rfl); (focus exact wt); (focus (decide +kernel)); (focus exact hsq); (focus rfl); (focus (first | exact qg2 | exact qs2))) | (apply drnK_take 3; (focus rfl); (focus rfl); (focus exact wt); (focus (decide +kernel)); (focus exact hsq); (focus rfl); (focus (first | exact qg3 | exact qs3))) | (apply drnK_done; (focus (decide +kernel))) | (apply drnK_skip; (focus rfl)) | (apply drnK_wrap; (focus rfl))))
  (refine drnK_at 13 ?_; (first | refine drnK_ones _ (by rfl) (by rfl) (by kernel_rfl) wt (by rfl) (by exact (opr_store_ownm (f := fO) (q' := x) rfl rfl rfl rfl (by exact pka) rfl (by omega) (by intro _; rfl) (by assumption) rfl rfl (by rfl))) ?_ | refine drnK_onen _ (by rfl) (by rfl) (by kernel_rfl) wt (by exact (opr_store_ownm (f := fO) (q' := x) rfl rfl rfl rfl (by exact pka) rfl (by omega) (by intro _; rfl) (by assumption) rfl rfl (by rfl))) ?_); rintro _ _ ⟨rfl, rfl⟩; refine ⟨(by first | exact fun h => absurd h (by decide) | exact fun _ => hsq), ?_⟩; (try dsimp only [List.cons_append, List.nil_append]))
  rw [e0]
  (refine drnK_at 14 ?_; (first | refine drnK_ones _ (by rfl) (by rfl) (by kernel_rfl) wt (by rfl) (by exact (opr_of_qt (q_index_own (i := i) rfl rfl rfl pka (by omega) (by omega)))) ?_ | refine drnK_onen _ (by rfl) (by rfl) (by kernel_rfl) wt (by exact (opr_of_qt (q_index_own (i := i) rfl rfl rfl pka (by omega) (by omega)))) ?_); rintro _ _ ⟨rfl, rfl⟩; refine ⟨(by first | exact fun h => absurd h (by decide) | exact fun _ => hsq), ?_⟩; (try dsimp only [List.cons_append, List.nil_append]))
  (refine drnK_at 15 ?_; (first | refine drnK_ones _ (by rfl) (by rfl) (by kernel_rfl) wt (by rfl) (by exact (opr_store_ownm (f := fO) (q' := x) rfl rfl rfl rfl (by exact pka) rfl (by omega) (by intro _; rfl) (by assumption) rfl rfl (by rfl))) ?_ | refine drnK_onen _ (by rfl) (by rfl) (by kernel_rfl) wt (by exact (opr_store_ownm (f := fO) (q' := x) rfl rfl rfl rfl (by exact pka) rfl (by omega) (by intro _; rfl) (by assumption) rfl rfl (by rfl))) ?_); rintro _ _ ⟨rfl, rfl⟩; refine ⟨(by first | exact fun h => absurd h (by decide) | exact fun _ => hsq), ?_⟩; (try dsimp only [List.cons_append, List.nil_append]))
  rw [e0]
  (repeat' (first | (apply drnK_end; (focus (decide +kernel)))))
  exact pst_fin_end rfl (by exact resa) _ (⟨rfl, rfl⟩) (by exact hsa)
end Go.Proofs.Ytkkgmgffkjeklaa.pick
