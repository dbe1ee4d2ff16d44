/-
  huff: coins in memory; the walks of swapRange and rotate.
-/
import Derived.Test.YtppnaofebkpbkaaSlStr2
import Derived.Test.YtppnaofebkpbkaaSlDrnP
import Derived.Test.YtppnaofebkpbkaaSlCallV
import Derived.Test.YtppnaofebkpbkaaSlOwn
import Derived.Test.YtppnaofebkpbkaaTypes
import Derived.Test.YtppnaofebkpbkaaSortLaw
namespace Go.Proofs.Ytppnaofebkpbkaa.hsort
open Go.RowKit kit sl Go.Proofs.Ytppnaofebkpbkaa.srt
set_option linter.unusedVariables false
/-- a coin as it lies: its worth, the slice of its signs -/
abbrev CV := Int × Option Addr × Nat × Nat
def fC (c : CV) : List Value := [.int .i64 c.1, .slice c.2.1 c.2.2.1 c.2.2.2]
theorem one_fC (c : CV) : ∀ u ∈ fC c, u.oneCell' = true := by simp [fC, Value.oneCell']
instance : Key CV := ⟨fun c => c.1⟩
theorem get_mid {α : Type} (u v : List α) (x : α) {i : Nat} (h : u.length = i) : (u ++ x :: v)[i]? = some x := by
  rw [← h, List.getElem?_append_right (Nat.le_refl _), Nat.sub_self]
  rfl
theorem set_mid {α : Type} (u v : List α) (x y : α) {i : Nat} (h : u.length = i) : (u ++ x :: v).set i y = u ++ y :: v := by
  rw [← h, List.set_append_right _ _ (Nat.le_refl _), Nat.sub_self]
  rfl
/-- two that change places -/
theorem swap_two {α : Type} (u v w : List α) (x y : α) {i j : Nat} (hi : u.length = i) (hj : i + 1 + v.length = j) :
    (u ++ x :: (v ++ y :: w))[i]? = some x ∧ (u ++ x :: (v ++ y :: w))[j]? = some y ∧ ((u ++ x :: (v ++ y :: w)).set i y)[j]? = some y ∧ ((u ++ x :: (v ++ y :: w)).set i y).set j x = u ++ y :: (v ++ x :: w) ∧
    ((u ++ x :: (v ++ y :: w)).set j x)[i]? = some x ∧ ((u ++ x :: (v ++ y :: w)).set j x).set i y = u ++ y :: (v ++ x :: w) := by
  have e : ∀ z t : α, u ++ z :: (v ++ t :: w) = (u ++ z :: v) ++ t :: w := fun z t => by simp
  have hl : ∀ z : α, (u ++ z :: v).length = j := fun z => by rw [List.length_append, List.length_cons]; omega
  refine ⟨get_mid _ _ _ hi, ?_, ?_, ?_, ?_, ?_⟩
  · rw [e]; exact get_mid _ _ _ (hl x)
  · rw [set_mid _ _ _ _ hi, e]; exact get_mid _ _ _ (hl y)
  · rw [set_mid _ _ _ _ hi, e, set_mid _ _ _ _ (hl y), e]
  · rw [e, set_mid _ _ _ _ (hl x), ← e]; exact get_mid _ _ _ hi
  · rw [e, set_mid _ _ _ _ (hl x), ← e, set_mid _ _ _ _ hi]
/-- i of the places of two blocks are changed -/
def Zs {α : Type} (P X M Y S : List α) (i : Nat) : List α := P ++ (Y.take i ++ X.drop i) ++ M ++ (X.take i ++ Y.drop i) ++ S
theorem zs_zero {α : Type} (P X M Y S : List α) : P ++ X ++ M ++ Y ++ S = Zs P X M Y S 0 := by simp [Zs]
theorem zs_all {α : Type} (P X M Y S : List α) {n : Nat} (hx : X.length = n) (hy : Y.length = n) : Zs P X M Y S n = P ++ Y ++ M ++ X ++ S := by
  unfold Zs
  rw [List.take_of_length_le (by omega : Y.length ≤ n), List.take_of_length_le (by omega : X.length ≤ n), List.drop_of_length_le (by omega : X.length ≤ n), List.drop_of_length_le (by omega : Y.length ≤ n), List.append_nil, List.append_nil]
theorem zs_step {α : Type} (P X M Y S : List α) {n i a b : Nat} {x y : α} (hx : X[i]? = some x) (hy : Y[i]? = some y) (hxl : X.length = n) (hyl : Y.length = n) (ha : P.length = a) (hb : a + n + M.length = b) :
    (Zs P X M Y S i)[a + i]? = some x ∧ (Zs P X M Y S i)[b + i]? = some y ∧ ((Zs P X M Y S i).set (a + i) y)[b + i]? = some y ∧ ((Zs P X M Y S i).set (a + i) y).set (b + i) x = Zs P X M Y S (i + 1) := by
  obtain ⟨h1, h2⟩ := List.getElem?_eq_some_iff.1 hx
  obtain ⟨h3, h4⟩ := List.getElem?_eq_some_iff.1 hy
  have ex : X.drop i = x :: X.drop (i + 1) := by rw [List.drop_eq_getElem_cons h1, h2]
  have ey : Y.drop i = y :: Y.drop (i + 1) := by rw [List.drop_eq_getElem_cons h3, h4]
  have tx : X.take (i + 1) = X.take i ++ [x] := by rw [List.take_add_one, hx]; rfl
  have ty : Y.take (i + 1) = Y.take i ++ [y] := by rw [List.take_add_one, hy]; rfl
  have e : Zs P X M Y S i = (P ++ Y.take i) ++ x :: ((X.drop (i + 1) ++ M ++ X.take i) ++ y :: (Y.drop (i + 1) ++ S)) := by
    unfold Zs
    rw [ex, ey]
    simp
  have e' : Zs P X M Y S (i + 1) = (P ++ Y.take i) ++ y :: ((X.drop (i + 1) ++ M ++ X.take i) ++ x :: (Y.drop (i + 1) ++ S)) := by
    unfold Zs
    rw [tx, ty]
    simp
  have h := swap_two (P ++ Y.take i) (X.drop (i + 1) ++ M ++ X.take i) (Y.drop (i + 1) ++ S) x y (i := a + i) (j := b + i) (by rw [List.length_append, List.length_take]; omega) (by rw [List.length_append, List.length_append, List.length_take, List.length_drop]; omega)
  rw [e, e']
  exact ⟨h.1, h.2.1, h.2.2.1, h.2.2.2.1⟩
theorem zs_len {α : Type} (P X M Y S : List α) (n i : Nat) (hxl : X.length = n) (hyl : Y.length = n) : (Zs P X M Y S i).length = (P ++ X ++ M ++ Y ++ S).length := by
  unfold Zs
  simp only [List.length_append, List.length_take, List.length_drop]
  omega
attribute [local irreducible] box own sl old bptr eptr Qt Opr Run Cod Pst Drn
set_option maxRecDepth 100000 in
set_option maxHeartbeats 8000000 in
theorem swapr_any (q : Option Addr) (c : Nat) (cv : Value) (P X M Y S : List CV) (n a b N : Nat) (hx : X.length = n) (hy : Y.length = n) (ha : P.length = a) (hb : a + n + M.length = b) (hN : (P ++ X ++ M ++ Y ++ S).length = N) (hN0 : 0 < N) (hNb : N ≤ 1000000000) :
    Ct Try.prog 83 [.slice q N c, .int .i64 (a : Int), .int .i64 (b : Int), .int .i64 (n : Int), cv] [own (.slice q N c) 44 2 N (flat fC (P ++ X ++ M ++ Y ++ S))]
      fun v H' => v = .tuple #[] ∧ H' = [own (.slice q N c) 44 2 N (flat fC (P ++ Y ++ M ++ X ++ S))] := by
  have hlen : P.length + X.length + M.length + Y.length + S.length = N := by rw [← hN]; simp only [List.length_append]
  rw [← zs_all P X M Y S hx hy, zs_zero]
  (refine spec_enter Try.func83 Try.ntmps83 rfl rfl fun Fr => ?_; dsimp only [List.cons_append, List.nil_append, ini, Nat.reduceAdd])
  refine cod_shapeN pka (by omega) ?_
  rintro g rfl hc
  (repeat' (first | (apply run_qg 1; (focus rfl); (focus exact wt); (focus rfl); (focus (exact qg1))) | refine cod_seq ?_ | refine cod_region ?_ | refine run_nil ?_ | refine pst_then ?_ | refine cod_block ?_))
  (refine cod_loop_rw (σ := Nat) (fun i => i ≤ n) (fun i => [(10, .int .i64 (i : Int))]) (fun i => [own (.slice (some ⟨g, 0, none⟩) N c) 44 2 N (flat fC (Zs P X M Y S i))]) _ (fun i => n - i) (0) (by exact Nat.zero_le _) (by exact fsa) (by (first | exact HSub.of_picks_rest (by exact pca))) (fun i hi => ?_); dsimp only [List.cons_append, List.nil_append])
  rcases Nat.lt_or_ge i n with hlt | hge
  · obtain ⟨x, hxi⟩ : ∃ x, X[i]? = some x := ⟨_, List.getElem?_eq_getElem (by omega)⟩
    obtain ⟨y, hyi⟩ : ∃ y, Y[i]? = some y := ⟨_, List.getElem?_eq_getElem (by omega)⟩
    obtain ⟨z1, z2, z3, z4⟩ := zs_step P X M Y S hxi hyi hx hy ha hb
    have hai : (a : Int) + (i : Int) = ((a + i : Nat) : Int) := by omega
    have hbi : (b : Int) + (i : Int) = ((b + i : Nat) : Int) := by omega
    have hA : a + i < N := by omega
    have hB : b + i < N := by omega
    have hzl := zs_len P X M Y S n i hx hy
    rw [hN] at hzl
    generalize Zs P X M Y S i = Z at *
    (repeat' (first | (apply run_qg 1; (focus rfl); (focus exact wt); (focus rfl); (focus (exact qg1))) | (apply run_qg 4; (focus rfl); (focus exact wt); (focus rfl); (focus (first | exact qg4 | exact qs4))) | refine cod_seq ?_ | refine cod_region ?_ | refine run_nil ?_ | refine pst_then ?_ | (apply cod_cond_t; (focus rfl)) | refine cod_block ?_ | refine cod_skip ?_))
    refine cod_pre (by kernel_rfl) (by simp only [List.length_cons, List.length_nil, Nat.reduceAdd]; rfl) ?_
    refine pre_take 0 rfl wt (by decide +kernel) rfl (q_move rfl rfl) ?_
    refine pre_take 1 rfl wt (by decide +kernel) rfl (q_move rfl rfl) ?_
    refine pre_take 2 rfl wt (by decide +kernel) rfl (q_move rfl rfl) ?_
    refine pre_take 3 rfl wt (by decide +kernel) rfl (q_add rfl rfl rfl (by omega)) ?_
    refine pre_take 4 rfl wt (by decide +kernel) rfl (q_move rfl rfl) ?_
    refine pre_take 5 rfl wt (by decide +kernel) rfl (q_move rfl rfl) ?_
    refine pre_take 6 rfl wt (by decide +kernel) rfl (q_move rfl rfl) ?_
    refine pre_take 7 rfl wt (by decide +kernel) rfl (q_add rfl rfl rfl (by omega)) ?_
    refine pre_take 8 rfl wt (by decide +kernel) rfl (q_move rfl rfl) ?_
    refine pre_take 9 rfl wt (by decide +kernel) rfl (q_move rfl rfl) ?_
    refine pre_take 10 rfl wt (by decide +kernel) rfl (q_move rfl rfl) ?_
    refine pre_take 11 rfl wt (by decide +kernel) rfl (q_add rfl rfl rfl (by omega)) ?_
    rw [hbi]
    refine pre_take 12 rfl wt (by decide +kernel) rfl (q_index_at (i := b + i) rfl rfl rfl hB) ?_
    refine pre_take 14 rfl wt (by decide +kernel) rfl (q_move rfl rfl) ?_
    refine pre_take 15 rfl wt (by decide +kernel) rfl (q_move rfl rfl) ?_
    refine pre_take 16 rfl wt (by decide +kernel) rfl (q_move rfl rfl) ?_
    refine pre_take 17 rfl wt (by decide +kernel) rfl (q_add rfl rfl rfl (by omega)) ?_
    rw [hai]
    refine pre_take 18 rfl wt (by decide +kernel) rfl (q_index_at (i := a + i) rfl rfl rfl hA) ?_
    refine pre_drn (Hq := [own (.slice (some ⟨g, 0, none⟩) N c) 44 2 N (flat fC Z)]) (nk := [21, 22, 23]) (r := 1) (i := 0) ?_
    (repeat' (first | (apply drnK_take 2; (focus rfl); (focus rfl); (focus exact wt); (focus (decide +kernel)); (focus exact hsq); (focus rfl); (focus (first | exact qg2 | exact qs2))) | (apply drnK_take 3; (focus rfl); (focus rfl); (focus exact wt); (focus (decide +kernel)); (focus exact hsq); (focus rfl); (focus (first | exact qg3 | exact qs3))) | (apply drnK_done; (focus (decide +kernel))) | (apply drnK_skip; (focus rfl)) | (apply drnK_wrap; (focus rfl))))
    (refine drnK_at 21 ?_; (first | refine drnK_ones _ (by rfl) (by rfl) (by kernel_rfl) wt (by rfl) (by exact (opr_store_ownm (f := fC) (q' := y) rfl rfl rfl rfl (by exact pka) rfl (by omega) (by intro _; rfl) (by assumption) rfl rfl (by rfl))) ?_ | refine drnK_onen _ (by rfl) (by rfl) (by kernel_rfl) wt (by exact (opr_store_ownm (f := fC) (q' := y) rfl rfl rfl rfl (by exact pka) rfl (by omega) (by intro _; rfl) (by assumption) rfl rfl (by rfl))) ?_); rintro _ _ ⟨rfl, rfl⟩; refine ⟨(by first | exact fun h => absurd h (by decide) | exact fun _ => hsq), ?_⟩; (try dsimp only [List.cons_append, List.nil_append]))
    (refine drnK_at 22 ?_; (first | refine drnK_ones _ (by rfl) (by rfl) (by kernel_rfl) wt (by rfl) (by exact (opr_of_qt (q_index_own (i := b + i) rfl rfl rfl pka (by omega) (by omega)))) ?_ | refine drnK_onen _ (by rfl) (by rfl) (by kernel_rfl) wt (by exact (opr_of_qt (q_index_own (i := b + i) rfl rfl rfl pka (by omega) (by omega)))) ?_); rintro _ _ ⟨rfl, rfl⟩; refine ⟨(by first | exact fun h => absurd h (by decide) | exact fun _ => hsq), ?_⟩; (try dsimp only [List.cons_append, List.nil_append]))
    (refine drnK_at 23 ?_; (first | refine drnK_ones _ (by rfl) (by rfl) (by kernel_rfl) wt (by rfl) (by exact (opr_store_ownm (f := fC) (q' := x) rfl rfl rfl rfl (by exact pka) rfl (by omega) (by intro _; rfl) (by assumption) rfl rfl (by rfl))) ?_ | refine drnK_onen _ (by rfl) (by rfl) (by kernel_rfl) wt (by exact (opr_store_ownm (f := fC) (q' := x) rfl rfl rfl rfl (by exact pka) rfl (by omega) (by intro _; rfl) (by assumption) rfl rfl (by rfl))) ?_); rintro _ _ ⟨rfl, rfl⟩; refine ⟨(by first | exact fun h => absurd h (by decide) | exact fun _ => hsq), ?_⟩; (try dsimp only [List.cons_append, List.nil_append]))
    rw [z4]
    (repeat' (first | (apply run_qg 1; (focus rfl); (focus exact wt); (focus rfl); (focus (exact qg1))) | (apply run_qg 4; (focus rfl); (focus exact wt); (focus rfl); (focus (first | exact qg4 | exact qs4))) | refine cod_region ?_ | refine run_nil ?_ | refine pst_then ?_ | refine pst_block ?_ | (apply drnK_end; (focus (decide +kernel)))))
    refine pst_again (i + 1) ?_ (FSub.of (by (try dsimp only); exact fsa)) (by (try dsimp only); exact hsa) ?_
    · exact hlt
    · omega
  · have hin : i = n := by omega
    subst hin
    (repeat' (first | (apply run_qg 1; (focus rfl); (focus exact wt); (focus rfl); (focus (exact qg1))) | (apply run_qg 4; (focus rfl); (focus exact wt); (focus rfl); (focus (first | exact qg4 | exact qs4))) | refine cod_seq ?_ | refine cod_region ?_ | refine run_nil ?_ | refine pst_then ?_ | (apply cod_cond_f; (focus rfl)) | refine cod_exit ?_ | refine pst_block_here ?_ | refine pst_then_exit ?_))
    exact pst_fin_end rfl (by exact resa) _ (⟨rfl, rfl⟩) (by exact hsa)
set_option maxRecDepth 100000 in
set_option maxHeartbeats 8000000 in
theorem rotate_any (q : Option Addr) (c : Nat) (cv : Value) (P A B S : List CV) (a m b N : Nat) (ha : P.length = a) (hm : a + A.length = m) (hb : m + B.length = b) (hA0 : 0 < A.length) (hB0 : 0 < B.length) (hN : (P ++ A ++ B ++ S).length = N) (hNb : N ≤ 1000000000) :
    Ct Try.prog 74 [.slice q N c, .int .i64 (a : Int), .int .i64 (m : Int), .int .i64 (b : Int), cv] [own (.slice q N c) 44 2 N (flat fC (P ++ A ++ B ++ S))]
      fun v H' => v = .tuple #[] ∧ H' = [own (.slice q N c) 44 2 N (flat fC (P ++ B ++ A ++ S))] := by
  have hlen : P.length + A.length + B.length + S.length = N := by rw [← hN]; simp only [List.length_append]
  have hN0 : 0 < N := by omega
  have e1 : (m : Int) - (a : Int) = (A.length : Int) := by omega
  have e2 : (b : Int) - (m : Int) = (B.length : Int) := by omega
  rw [show P ++ A ++ B ++ S = P ++ [] ++ A ++ B ++ [] ++ S by simp]
  (refine spec_enter Try.func74 Try.ntmps74 rfl rfl fun Fr => ?_; dsimp only [List.cons_append, List.nil_append, ini, Nat.reduceAdd])
  (repeat' (first | (apply run_qg 1; (focus rfl); (focus exact wt); (focus rfl); (focus (exact qg1))) | (apply run_qg 4; (focus rfl); (focus exact wt); (focus rfl); (focus (first | exact qg4 | exact qs4))) | refine cod_seq ?_ | refine cod_region ?_ | refine run_nil ?_ | refine pst_then ?_ | refine cod_block ?_))
  rw [e1, e2]
  (refine cod_loop_rw (σ := List CV × List CV × List CV × List CV) (fun x => ((0 < x.2.1.length ∧ 0 < x.2.2.1.length) ∧ (a + x.1.length + x.2.1.length = m ∧ m + x.2.2.1.length + x.2.2.2.length = b)) ∧ x.1 ++ x.2.2.1 ++ x.2.1 ++ x.2.2.2 = B ++ A) (fun x => [(10, .int .i64 (x.2.1.length : Int)), (11, .int .i64 (x.2.2.1.length : Int))]) (fun x => [own (.slice q N c) 44 2 N (flat fC (P ++ x.1 ++ x.2.1 ++ x.2.2.1 ++ x.2.2.2 ++ S))]) _ (fun x => x.2.1.length + x.2.2.1.length) (([], A, B, [])) (by exact ⟨⟨⟨hA0, hB0⟩, by dsimp only; simp only [List.length_nil]; omega⟩, by simp⟩) (by exact fsa) (by (first | exact HSub.of_picks_rest (by exact pca))) (fun ⟨D1, X, Y, D2⟩ ⟨⟨⟨hX, hY⟩, hl1, hl2⟩, hE⟩ => ?_); dsimp only [List.cons_append, List.nil_append])
  dsimp only at hX hY hl1 hl2 hE
  have hmi : (m : Int) - (X.length : Int) = ((a + D1.length : Nat) : Int) := by omega
  rcases Nat.lt_trichotomy X.length Y.length with g | g | g
  · have hYt : Y = Y.take (Y.length - X.length) ++ Y.drop (Y.length - X.length) := (List.take_append_drop _ _).symm
    have hy1 : (Y.take (Y.length - X.length)).length = Y.length - X.length := by rw [List.length_take]; omega
    have hy2 : (Y.drop (Y.length - X.length)).length = X.length := by rw [List.length_drop]; omega
    generalize Y.take (Y.length - X.length) = Y1 at *
    generalize Y.drop (Y.length - X.length) = Y2 at *
    have hyl : Y.length = Y1.length + X.length := by omega
    subst hYt
    have hmj : (m : Int) + ((Y1 ++ Y2).length : Int) - (X.length : Int) = ((m + Y1.length : Nat) : Int) := by rw [List.length_append]; omega
    have hji : ((Y1 ++ Y2).length : Int) - (X.length : Int) = (Y1.length : Int) := by rw [List.length_append]; omega
    have SW := swapr_any q c cv (P ++ D1) X Y1 Y2 (D2 ++ S) X.length (a + D1.length) (m + Y1.length) N rfl hy2 (by rw [List.length_append, ha]) (by omega) (by simp only [List.length_append] at hl2 ⊢; omega) hN0 hNb
    rw [show P ++ D1 ++ X ++ (Y1 ++ Y2) ++ D2 ++ S = P ++ D1 ++ X ++ Y1 ++ Y2 ++ (D2 ++ S) by simp]
    (repeat' (first | (apply run_qg 1; (focus rfl); (focus exact wt); (focus rfl); (focus (exact qg1))) | (apply run_qg 4; (focus rfl); (focus exact wt); (focus rfl); (focus (first | exact qg4 | exact qs4))) | refine cod_seq ?_ | refine cod_region ?_ | refine run_nil ?_ | refine pst_then ?_ | (apply cod_cond_t; (focus rfl)) | (apply cod_cond_f; (focus rfl)) | refine cod_block ?_ | refine cod_skip ?_))
    rw [hmi, hmj]
    refine run_os wt rfl (opr_call_l rfl SW rfl lpa) ?_
    rintro _ _ ⟨_, ⟨rfl, rfl⟩, rfl⟩
    dsimp only [List.cons_append, List.nil_append]
    (repeat' (first | (apply run_qg 1; (focus rfl); (focus exact wt); (focus rfl); (focus (exact qg1))) | (apply run_qg 4; (focus rfl); (focus exact wt); (focus rfl); (focus (first | exact qg4 | exact qs4))) | refine cod_region ?_ | refine run_nil ?_ | refine pst_then ?_ | refine pst_block ?_))
    rw [hji, ← hy2, show P ++ D1 ++ Y2 ++ Y1 ++ X ++ (D2 ++ S) = P ++ D1 ++ Y2 ++ Y1 ++ (X ++ D2) ++ S by simp]
    refine pst_again ((D1, Y2, Y1, X ++ D2)) ?_ (FSub.of (by (try dsimp only); exact fsa)) (by (try dsimp only); exact hsa) ?_
    · refine ⟨⟨⟨by dsimp only; omega, by dsimp only; omega⟩, by dsimp only; omega, ?_⟩, ?_⟩
      · dsimp only
        rw [List.length_append] at hl2 ⊢
        omega
      · rw [← hE]; simp
    · dsimp only
      rw [List.length_append]
      omega
  · have SW := swapr_any q c cv (P ++ D1) X [] Y (D2 ++ S) X.length (a + D1.length) m N rfl g.symm (by rw [List.length_append, ha]) (by simp only [List.length_nil]; omega) (by simp only [List.length_append, List.length_nil]; omega) hN0 hNb
    rw [show P ++ D1 ++ X ++ Y ++ D2 ++ S = P ++ D1 ++ X ++ [] ++ Y ++ (D2 ++ S) by simp]
    (repeat' (first | (apply run_qg 1; (focus rfl); (focus exact wt); (focus rfl); (focus (exact qg1))) | (apply run_qg 4; (focus rfl); (focus exact wt); (focus rfl); (focus (first | exact qg4 | exact qs4))) | refine cod_seq ?_ | refine cod_region ?_ | refine run_nil ?_ | refine pst_then ?_ | (apply cod_cond_f; (focus rfl)) | refine cod_exit ?_ | refine pst_block_here ?_ | refine pst_then_exit ?_))
    rw [hmi]
    refine run_os wt rfl (opr_call_l rfl SW rfl lpa) ?_
    rintro _ _ ⟨_, ⟨rfl, rfl⟩, rfl⟩
    dsimp only [List.cons_append, List.nil_append]
    rw [show P ++ D1 ++ Y ++ [] ++ X ++ (D2 ++ S) = P ++ (D1 ++ Y ++ X ++ D2) ++ S by simp, hE, show P ++ (B ++ A) ++ S = P ++ B ++ A ++ S by simp]
    (repeat' (first | refine run_nil ?_))
    exact pst_fin_end rfl (by exact resa) _ (⟨rfl, rfl⟩) (by exact hsa)
  · have hXt : X = X.take Y.length ++ X.drop Y.length := (List.take_append_drop _ _).symm
    have hx1 : (X.take Y.length).length = Y.length := by rw [List.length_take]; omega
    have hx2 : (X.drop Y.length).length = X.length - Y.length := by rw [List.length_drop]
    generalize X.take Y.length = X1 at *
    generalize X.drop Y.length = X2 at *
    have hxl : X.length = Y.length + X2.length := by omega
    subst hXt
    have hij : ((X1 ++ X2).length : Int) - (Y.length : Int) = (X2.length : Int) := by rw [List.length_append]; omega
    have SW := swapr_any q c cv (P ++ D1) X1 X2 Y (D2 ++ S) Y.length (a + D1.length) m N hx1 rfl (by rw [List.length_append, ha]) (by omega) (by simp only [List.length_append] at hl1 ⊢; omega) hN0 hNb
    rw [show P ++ D1 ++ (X1 ++ X2) ++ Y ++ D2 ++ S = P ++ D1 ++ X1 ++ X2 ++ Y ++ (D2 ++ S) by simp]
    (repeat' (first | (apply run_qg 1; (focus rfl); (focus exact wt); (focus rfl); (focus (exact qg1))) | (apply run_qg 4; (focus rfl); (focus exact wt); (focus rfl); (focus (first | exact qg4 | exact qs4))) | refine cod_seq ?_ | refine cod_region ?_ | refine run_nil ?_ | refine pst_then ?_ | (apply cod_cond_t; (focus rfl)) | refine cod_block ?_ | refine cod_skip ?_))
    rw [hmi]
    refine run_os wt rfl (opr_call_l rfl SW rfl lpa) ?_
    rintro _ _ ⟨_, ⟨rfl, rfl⟩, rfl⟩
    dsimp only [List.cons_append, List.nil_append]
    (repeat' (first | (apply run_qg 1; (focus rfl); (focus exact wt); (focus rfl); (focus (exact qg1))) | (apply run_qg 4; (focus rfl); (focus exact wt); (focus rfl); (focus (first | exact qg4 | exact qs4))) | refine cod_region ?_ | refine run_nil ?_ | refine pst_then ?_ | refine pst_block ?_))
    rw [hij, ← hx1, show P ++ D1 ++ Y ++ X2 ++ X1 ++ (D2 ++ S) = P ++ (D1 ++ Y) ++ X2 ++ X1 ++ D2 ++ S by simp]
    refine pst_again ((D1 ++ Y, X2, X1, D2)) ?_ (FSub.of (by (try dsimp only); exact fsa)) (by (try dsimp only); exact hsa) ?_
    · refine ⟨⟨⟨by dsimp only; omega, by dsimp only; omega⟩, ?_, by dsimp only; omega⟩, ?_⟩
      · dsimp only
        rw [List.length_append] at hl1 ⊢
        omega
      · rw [← hE]; simp
    · dsimp only
      rw [List.length_append]
      omega
end Go.Proofs.Ytppnaofebkpbkaa.hsort
