/-
  Several texts in one: HuffSortA, HuffSortB, HuffSortC, HuffSortD, HuffSortE, HuffSortF, HuffX.
-/
import Derived.Test.YtppnaofebkpbkaaSlStr2
import Derived.Test.YtppnaofebkpbkaaSlDrnP
import Derived.Test.YtppnaofebkpbkaaSlCallV
import Derived.Test.YtppnaofebkpbkaaSlOwn
import Derived.Test.YtppnaofebkpbkaaTypes
import Derived.Test.YtppnaofebkpbkaaSortLaw
import Derived.Test.YtppnaofebkpbkaaSlMany2
import Derived.Test.YtppnaofebkpbkaaSlRow2
import Derived.Test.YtppnaofebkpbkaaIntsCat
import Derived.Test.YtppnaofebkpbkaaPm
/-
  huff: coins in memory; the walks of swapRange and rotate.
-/
namespace Go.Proofs.Ytppnaofebkpbkaa.hsort
open Go.RowKit kit sl Go.Proofs.Ytppnaofebkpbkaa.srt
set_option linter.unusedVariables false
/-- a coin as it lies: its worth, the slice of its signs -/
abbrev CV := Int × Option Addr × Nat × Nat
def fC (c : CV) : List Value := [.int .i64 c.1, .slice c.2.1 c.2.2.1 c.2.2.2]
theorem one_fC (c : CV) : ∀ u ∈ fC c, u.oneCell' = true := by simp [fC, Value.oneCell']
instance : Key CV := ⟨fun c => c.1⟩
theorem get_mid {α : Type} (u v : List α) (x : α) {i : Nat} (h : u.length = i) : (u ++ x :: v)[i]? = some x := by
  rw [← h, List.getElem?_append_right (Nat.le_refl _), Nat.sub_self]
  rfl
theorem set_mid {α : Type} (u v : List α) (x y : α) {i : Nat} (h : u.length = i) : (u ++ x :: v).set i y = u ++ y :: v := by
  rw [← h, List.set_append_right _ _ (Nat.le_refl _), Nat.sub_self]
  rfl
/-- two that change places -/
theorem swap_two {α : Type} (u v w : List α) (x y : α) {i j : Nat} (hi : u.length = i) (hj : i + 1 + v.length = j) :
    (u ++ x :: (v ++ y :: w))[i]? = some x ∧ (u ++ x :: (v ++ y :: w))[j]? = some y ∧ ((u ++ x :: (v ++ y :: w)).set i y)[j]? = some y ∧ ((u ++ x :: (v ++ y :: w)).set i y).set j x = u ++ y :: (v ++ x :: w) ∧
    ((u ++ x :: (v ++ y :: w)).set j x)[i]? = some x ∧ ((u ++ x :: (v ++ y :: w)).set j x).set i y = u ++ y :: (v ++ x :: w) := by
  have e : ∀ z t : α, u ++ z :: (v ++ t :: w) = (u ++ z :: v) ++ t :: w := fun z t => by simp
  have hl : ∀ z : α, (u ++ z :: v).length = j := fun z => by rw [List.length_append, List.length_cons]; omega
  refine ⟨get_mid _ _ _ hi, ?_, ?_, ?_, ?_, ?_⟩
  · rw [e]; exact get_mid _ _ _ (hl x)
  · rw [set_mid _ _ _ _ hi, e]; exact get_mid _ _ _ (hl y)
  · rw [set_mid _ _ _ _ hi, e, set_mid _ _ _ _ (hl y), e]
  · rw [e, set_mid _ _ _ _ (hl x), ← e]; exact get_mid _ _ _ hi
  · rw [e, set_mid _ _ _ _ (hl x), ← e, set_mid _ _ _ _ hi]
/-- i of the places of two blocks are changed -/
def Zs {α : Type} (P X M Y S : List α) (i : Nat) : List α := P ++ (Y.take i ++ X.drop i) ++ M ++ (X.take i ++ Y.drop i) ++ S
theorem zs_zero {α : Type} (P X M Y S : List α) : P ++ X ++ M ++ Y ++ S = Zs P X M Y S 0 := by simp [Zs]
theorem zs_all {α : Type} (P X M Y S : List α) {n : Nat} (hx : X.length = n) (hy : Y.length = n) : Zs P X M Y S n = P ++ Y ++ M ++ X ++ S := by
  unfold Zs
  rw [List.take_of_length_le (by omega : Y.length ≤ n), List.take_of_length_le (by omega : X.length ≤ n), List.drop_of_length_le (by omega : X.length ≤ n), List.drop_of_length_le (by omega : Y.length ≤ n), List.append_nil, List.append_nil]
theorem zs_step {α : Type} (P X M Y S : List α) {n i a b : Nat} {x y : α} (hx : X[i]? = some x) (hy : Y[i]? = some y) (hxl : X.length = n) (hyl : Y.length = n) (ha : P.length = a) (hb : a + n + M.length = b) :
    (Zs P X M Y S i)[a + i]? = some x ∧ (Zs P X M Y S i)[b + i]? = some y ∧ ((Zs P X M Y S i).set (a + i) y)[b + i]? = some y ∧ ((Zs P X M Y S i).set (a + i) y).set (b + i) x = Zs P X M Y S (i + 1) := by
  obtain ⟨h1, h2⟩ := List.getElem?_eq_some_iff.1 hx
  obtain ⟨h3, h4⟩ := List.getElem?_eq_some_iff.1 hy
  have ex : X.drop i = x :: X.drop (i + 1) := by rw [List.drop_eq_getElem_cons h1, h2]
  have ey : Y.drop i = y :: Y.drop (i + 1) := by rw [List.drop_eq_getElem_cons h3, h4]
  have tx : X.take (i + 1) = X.take i ++ [x] := by rw [List.take_add_one, hx]; rfl
  have ty : Y.take (i + 1) = Y.take i ++ [y] := by rw [List.take_add_one, hy]; rfl
  have e : Zs P X M Y S i = (P ++ Y.take i) ++ x :: ((X.drop (i + 1) ++ M ++ X.take i) ++ y :: (Y.drop (i + 1) ++ S)) := by
    unfold Zs
    rw [ex, ey]
    simp
  have e' : Zs P X M Y S (i + 1) = (P ++ Y.take i) ++ y :: ((X.drop (i + 1) ++ M ++ X.take i) ++ x :: (Y.drop (i + 1) ++ S)) := by
    unfold Zs
    rw [tx, ty]
    simp
  have h := swap_two (P ++ Y.take i) (X.drop (i + 1) ++ M ++ X.take i) (Y.drop (i + 1) ++ S) x y (i := a + i) (j := b + i) (by rw [List.length_append, List.length_take]; omega) (by rw [List.length_append, List.length_append, List.length_take, List.length_drop]; omega)
  rw [e, e']
  exact ⟨h.1, h.2.1, h.2.2.1, h.2.2.2.1⟩
theorem zs_len {α : Type} (P X M Y S : List α) (n i : Nat) (hxl : X.length = n) (hyl : Y.length = n) : (Zs P X M Y S i).length = (P ++ X ++ M ++ Y ++ S).length := by
  unfold Zs
  simp only [List.length_append, List.length_take, List.length_drop]
  omega
attribute [local irreducible] box own sl old bptr eptr Qt Opr Run Cod Pst Drn
set_option maxRecDepth 100000 in
set_option maxHeartbeats 8000000 in
theorem swapr_any (q : Option Addr) (c : Nat) (cv : Value) (P X M Y S : List CV) (n a b N : Nat) (hx : X.length = n) (hy : Y.length = n) (ha : P.length = a) (hb : a + n + M.length = b) (hN : (P ++ X ++ M ++ Y ++ S).length = N) (hN0 : 0 < N) (hNb : N ≤ 1000000000) :
    Ct Try.prog 83 [.slice q N c, .int .i64 (a : Int), .int .i64 (b : Int), .int .i64 (n : Int), cv] [own (.slice q N c) 44 2 N (flat fC (P ++ X ++ M ++ Y ++ S))]
      fun v H' => v = .tuple #[] ∧ H' = [own (.slice q N c) 44 2 N (flat fC (P ++ Y ++ M ++ X ++ S))] := by
  have hlen : P.length + X.length + M.length + Y.length + S.length = N := by rw [← hN]; simp only [List.length_append]
  rw [← zs_all P X M Y S hx hy, zs_zero]
  (refine spec_enter Try.func83 Try.ntmps83 rfl rfl fun Fr => ?_; dsimp only [List.cons_append, List.nil_append, ini, Nat.reduceAdd])
  refine cod_shapeN pka (by omega) ?_
  rintro g rfl hc
  (repeat' (first | (apply run_qg 1; (focus rfl); (focus exact wt); (focus rfl); (focus (exact qg1))) | refine cod_seq ?_ | refine cod_region ?_ | refine run_nil ?_ | refine pst_then ?_ | refine cod_block ?_))
  (refine cod_loop_rw (σ := Nat) (fun i => i ≤ n) (fun i => [(10, .int .i64 (i : Int))]) (fun i => [own (.slice (some ⟨g, 0, none⟩) N c) 44 2 N (flat fC (Zs P X M Y S i))]) _ (fun i => n - i) (0) (by exact Nat.zero_le _) (by exact fsa) (by (first | exact HSub.of_picks_rest (by exact pca))) (fun i hi => ?_); dsimp only [List.cons_append, List.nil_append])
  rcases Nat.lt_or_ge i n with hlt | hge
  · obtain ⟨x, hxi⟩ : ∃ x, X[i]? = some x := ⟨_, List.getElem?_eq_getElem (by omega)⟩
    obtain ⟨y, hyi⟩ : ∃ y, Y[i]? = some y := ⟨_, List.getElem?_eq_getElem (by omega)⟩
    obtain ⟨z1, z2, z3, z4⟩ := zs_step P X M Y S hxi hyi hx hy ha hb
    have hai : (a : Int) + (i : Int) = ((a + i : Nat) : Int) := by omega
    have hbi : (b : Int) + (i : Int) = ((b + i : Nat) : Int) := by omega
    have hA : a + i < N := by omega
    have hB : b + i < N := by omega
    have hzl := zs_len P X M Y S n i hx hy
    rw [hN] at hzl
    generalize Zs P X M Y S i = Z at *
    (repeat' (first | (apply run_qg 1; (focus rfl); (focus exact wt); (focus rfl); (focus (exact qg1))) | (apply run_qg 4; (focus rfl); (focus exact wt); (focus rfl); (focus (first | exact qg4 | exact qs4))) | refine cod_seq ?_ | refine cod_region ?_ | refine run_nil ?_ | refine pst_then ?_ | (apply cod_cond_t; (focus rfl)) | refine cod_block ?_ | refine cod_skip ?_))
    refine cod_pre (by kernel_rfl) (by simp only [List.length_cons, List.length_nil, Nat.reduceAdd]; rfl) ?_
    refine pre_take 0 rfl wt (by decide +kernel) rfl (q_move rfl rfl) ?_
    refine pre_take 1 rfl wt (by decide +kernel) rfl (q_move rfl rfl) ?_
    refine pre_take 2 rfl wt (by decide +kernel) rfl (q_move rfl rfl) ?_
    refine pre_take 3 rfl wt (by decide +kernel) rfl (q_add rfl rfl rfl (by omega)) ?_
    refine pre_take 4 rfl wt (by decide +kernel) rfl (q_move rfl rfl) ?_
    refine pre_take 5 rfl wt (by decide +kernel) rfl (q_move rfl rfl) ?_
    refine pre_take 6 rfl wt (by decide +kernel) rfl (q_move rfl rfl) ?_
    refine pre_take 7 rfl wt (by decide +kernel) rfl (q_add rfl rfl rfl (by omega)) ?_
    refine pre_take 8 rfl wt (by decide +kernel) rfl (q_move rfl rfl) ?_
    refine pre_take 9 rfl wt (by decide +kernel) rfl (q_move rfl rfl) ?_
    refine pre_take 10 rfl wt (by decide +kernel) rfl (q_move rfl rfl) ?_
    refine pre_take 11 rfl wt (by decide +kernel) rfl (q_add rfl rfl rfl (by omega)) ?_
    rw [hbi]
    refine pre_take 12 rfl wt (by decide +kernel) rfl (q_index_at (i := b + i) rfl rfl rfl hB) ?_
    refine pre_take 14 rfl wt (by decide +kernel) rfl (q_move rfl rfl) ?_
    refine pre_take 15 rfl wt (by decide +kernel) rfl (q_move rfl rfl) ?_
    refine pre_take 16 rfl wt (by decide +kernel) rfl (q_move rfl rfl) ?_
    refine pre_take 17 rfl wt (by decide +kernel) rfl (q_add rfl rfl rfl (by omega)) ?_
    rw [hai]
    refine pre_take 18 rfl wt (by decide +kernel) rfl (q_index_at (i := a + i) rfl rfl rfl hA) ?_
    refine pre_drn (Hq := [own (.slice (some ⟨g, 0, none⟩) N c) 44 2 N (flat fC Z)]) (nk := [21, 22, 23]) (r := 1) (i := 0) ?_
    (repeat' (first | (apply drnK_take 2; (focus rfl); (focus rfl); (focus exact wt); (focus (decide +kernel)); (focus exact hsq); (focus rfl); (focus (first | exact qg2 | exact qs2))) | (apply drnK_take 3; (focus rfl); (focus rfl); (focus exact wt); (focus (decide +kernel)); (focus exact hsq); (focus rfl); (focus (first | exact qg3 | exact qs3))) | (apply drnK_done; (focus (decide +kernel))) | (apply drnK_skip; (focus rfl)) | (apply drnK_wrap; (focus rfl))))
    (refine drnK_at 21 ?_; (first | refine drnK_ones _ (by rfl) (by rfl) (by kernel_rfl) wt (by rfl) (by exact (opr_store_ownm (f := fC) (q' := y) rfl rfl rfl rfl (by exact pka) rfl (by omega) (by intro _; rfl) (by assumption) rfl rfl (by rfl))) ?_ | refine drnK_onen _ (by rfl) (by rfl) (by kernel_rfl) wt (by exact (opr_store_ownm (f := fC) (q' := y) rfl rfl rfl rfl (by exact pka) rfl (by omega) (by intro _; rfl) (by assumption) rfl rfl (by rfl))) ?_); rintro _ _ ⟨rfl, rfl⟩; refine ⟨(by first | exact fun h => absurd h (by decide) | exact fun _ => hsq), ?_⟩; (try dsimp only [List.cons_append, List.nil_append]))
    (refine drnK_at 22 ?_; (first | refine drnK_ones _ (by rfl) (by rfl) (by kernel_rfl) wt (by rfl) (by exact (opr_of_qt (q_index_own (i := b + i) rfl rfl rfl pka (by omega) (by omega)))) ?_ | refine drnK_onen _ (by rfl) (by rfl) (by kernel_rfl) wt (by exact (opr_of_qt (q_index_own (i := b + i) rfl rfl rfl pka (by omega) (by omega)))) ?_); rintro _ _ ⟨rfl, rfl⟩; refine ⟨(by first | exact fun h => absurd h (by decide) | exact fun _ => hsq), ?_⟩; (try dsimp only [List.cons_append, List.nil_append]))
    (refine drnK_at 23 ?_; (first | refine drnK_ones _ (by rfl) (by rfl) (by kernel_rfl) wt (by rfl) (by exact (opr_store_ownm (f := fC) (q' := x) rfl rfl rfl rfl (by exact pka) rfl (by omega) (by intro _; rfl) (by assumption) rfl rfl (by rfl))) ?_ | refine drnK_onen _ (by rfl) (by rfl) (by kernel_rfl) wt (by exact (opr_store_ownm (f := fC) (q' := x) rfl rfl rfl rfl (by exact pka) rfl (by omega) (by intro _; rfl) (by assumption) rfl rfl (by rfl))) ?_); rintro _ _ ⟨rfl, rfl⟩; refine ⟨(by first | exact fun h => absurd h (by decide) | exact fun _ => hsq), ?_⟩; (try dsimp only [List.cons_append, List.nil_append]))
    rw [z4]
    (repeat' (first | (apply run_qg 1; (focus rfl); (focus exact wt); (focus rfl); (focus (exact qg1))) | (apply run_qg 4; (focus rfl); (focus exact wt); (focus rfl); (focus (first | exact qg4 | exact qs4))) | refine cod_region ?_ | refine run_nil ?_ | refine pst_then ?_ | refine pst_block ?_ | (apply drnK_end; (focus (decide +kernel)))))
    refine pst_again (i + 1) ?_ (FSub.of (by (try dsimp only); exact fsa)) (by (try dsimp only); exact hsa) ?_
    · exact hlt
    · omega
  · have hin : i = n := by omega
    subst hin
    (repeat' (first | (apply run_qg 1; (focus rfl); (focus exact wt); (focus rfl); (focus (exact qg1))) | (apply run_qg 4; (focus rfl); (focus exact wt); (focus rfl); (focus (first | exact qg4 | exact qs4))) | refine cod_seq ?_ | refine cod_region ?_ | refine run_nil ?_ | refine pst_then ?_ | (apply cod_cond_f; (focus rfl)) | refine cod_exit ?_ | refine pst_block_here ?_ | refine pst_then_exit ?_))
    exact pst_fin_end rfl (by exact resa) _ (⟨rfl, rfl⟩) (by exact hsa)
set_option maxRecDepth 100000 in
set_option maxHeartbeats 8000000 in
theorem rotate_any (q : Option Addr) (c : Nat) (cv : Value) (P A B S : List CV) (a m b N : Nat) (ha : P.length = a) (hm : a + A.length = m) (hb : m + B.length = b) (hA0 : 0 < A.length) (hB0 : 0 < B.length) (hN : (P ++ A ++ B ++ S).length = N) (hNb : N ≤ 1000000000) :
    Ct Try.prog 74 [.slice q N c, .int .i64 (a : Int), .int .i64 (m : Int), .int .i64 (b : Int), cv] [own (.slice q N c) 44 2 N (flat fC (P ++ A ++ B ++ S))]
      fun v H' => v = .tuple #[] ∧ H' = [own (.slice q N c) 44 2 N (flat fC (P ++ B ++ A ++ S))] := by
  have hlen : P.length + A.length + B.length + S.length = N := by rw [← hN]; simp only [List.length_append]
  have hN0 : 0 < N := by omega
  have e1 : (m : Int) - (a : Int) = (A.length : Int) := by omega
  have e2 : (b : Int) - (m : Int) = (B.length : Int) := by omega
  rw [show P ++ A ++ B ++ S = P ++ [] ++ A ++ B ++ [] ++ S by simp]
  (refine spec_enter Try.func74 Try.ntmps74 rfl rfl fun Fr => ?_; dsimp only [List.cons_append, List.nil_append, ini, Nat.reduceAdd])
  (repeat' (first | (apply run_qg 1; (focus rfl); (focus exact wt); (focus rfl); (focus (exact qg1))) | (apply run_qg 4; (focus rfl); (focus exact wt); (focus rfl); (focus (first | exact qg4 | exact qs4))) | refine cod_seq ?_ | refine cod_region ?_ | refine run_nil ?_ | refine pst_then ?_ | refine cod_block ?_))
  rw [e1, e2]
  (refine cod_loop_rw (σ := List CV × List CV × List CV × List CV) (fun x => ((0 < x.2.1.length ∧ 0 < x.2.2.1.length) ∧ (a + x.1.length + x.2.1.length = m ∧ m + x.2.2.1.length + x.2.2.2.length = b)) ∧ x.1 ++ x.2.2.1 ++ x.2.1 ++ x.2.2.2 = B ++ A) (fun x => [(10, .int .i64 (x.2.1.length : Int)), (11, .int .i64 (x.2.2.1.length : Int))]) (fun x => [own (.slice q N c) 44 2 N (flat fC (P ++ x.1 ++ x.2.1 ++ x.2.2.1 ++ x.2.2.2 ++ S))]) _ (fun x => x.2.1.length + x.2.2.1.length) (([], A, B, [])) (by exact ⟨⟨⟨hA0, hB0⟩, by dsimp only; simp only [List.length_nil]; omega⟩, by simp⟩) (by exact fsa) (by (first | exact HSub.of_picks_rest (by exact pca))) (fun ⟨D1, X, Y, D2⟩ ⟨⟨⟨hX, hY⟩, hl1, hl2⟩, hE⟩ => ?_); dsimp only [List.cons_append, List.nil_append])
  dsimp only at hX hY hl1 hl2 hE
  have hmi : (m : Int) - (X.length : Int) = ((a + D1.length : Nat) : Int) := by omega
  rcases Nat.lt_trichotomy X.length Y.length with g | g | g
  · have hYt : Y = Y.take (Y.length - X.length) ++ Y.drop (Y.length - X.length) := (List.take_append_drop _ _).symm
    have hy1 : (Y.take (Y.length - X.length)).length = Y.length - X.length := by rw [List.length_take]; omega
    have hy2 : (Y.drop (Y.length - X.length)).length = X.length := by rw [List.length_drop]; omega
    generalize Y.take (Y.length - X.length) = Y1 at *
    generalize Y.drop (Y.length - X.length) = Y2 at *
    have hyl : Y.length = Y1.length + X.length := by omega
    subst hYt
    have hmj : (m : Int) + ((Y1 ++ Y2).length : Int) - (X.length : Int) = ((m + Y1.length : Nat) : Int) := by rw [List.length_append]; omega
    have hji : ((Y1 ++ Y2).length : Int) - (X.length : Int) = (Y1.length : Int) := by rw [List.length_append]; omega
    have SW := swapr_any q c cv (P ++ D1) X Y1 Y2 (D2 ++ S) X.length (a + D1.length) (m + Y1.length) N rfl hy2 (by rw [List.length_append, ha]) (by omega) (by simp only [List.length_append] at hl2 ⊢; omega) hN0 hNb
    rw [show P ++ D1 ++ X ++ (Y1 ++ Y2) ++ D2 ++ S = P ++ D1 ++ X ++ Y1 ++ Y2 ++ (D2 ++ S) by simp]
    (repeat' (first | (apply run_qg 1; (focus rfl); (focus exact wt); (focus rfl); (focus (exact qg1))) | (apply run_qg 4; (focus rfl); (focus exact wt); (focus rfl); (focus (first | exact qg4 | exact qs4))) | refine cod_seq ?_ | refine cod_region ?_ | refine run_nil ?_ | refine pst_then ?_ | (apply cod_cond_t; (focus rfl)) | (apply cod_cond_f; (focus rfl)) | refine cod_block ?_ | refine cod_skip ?_))
    rw [hmi, hmj]
    refine run_os wt rfl (opr_call_l rfl SW rfl lpa) ?_
    rintro _ _ ⟨_, ⟨rfl, rfl⟩, rfl⟩
    dsimp only [List.cons_append, List.nil_append]
    (repeat' (first | (apply run_qg 1; (focus rfl); (focus exact wt); (focus rfl); (focus (exact qg1))) | (apply run_qg 4; (focus rfl); (focus exact wt); (focus rfl); (focus (first | exact qg4 | exact qs4))) | refine cod_region ?_ | refine run_nil ?_ | refine pst_then ?_ | refine pst_block ?_))
    rw [hji, ← hy2, show P ++ D1 ++ Y2 ++ Y1 ++ X ++ (D2 ++ S) = P ++ D1 ++ Y2 ++ Y1 ++ (X ++ D2) ++ S by simp]
    refine pst_again ((D1, Y2, Y1, X ++ D2)) ?_ (FSub.of (by (try dsimp only); exact fsa)) (by (try dsimp only); exact hsa) ?_
    · refine ⟨⟨⟨by dsimp only; omega, by dsimp only; omega⟩, by dsimp only; omega, ?_⟩, ?_⟩
      · dsimp only
        rw [List.length_append] at hl2 ⊢
        omega
      · rw [← hE]; simp
    · dsimp only
      rw [List.length_append]
      omega
  · have SW := swapr_any q c cv (P ++ D1) X [] Y (D2 ++ S) X.length (a + D1.length) m N rfl g.symm (by rw [List.length_append, ha]) (by simp only [List.length_nil]; omega) (by simp only [List.length_append, List.length_nil]; omega) hN0 hNb
    rw [show P ++ D1 ++ X ++ Y ++ D2 ++ S = P ++ D1 ++ X ++ [] ++ Y ++ (D2 ++ S) by simp]
    (repeat' (first | (apply run_qg 1; (focus rfl); (focus exact wt); (focus rfl); (focus (exact qg1))) | (apply run_qg 4; (focus rfl); (focus exact wt); (focus rfl); (focus (first | exact qg4 | exact qs4))) | refine cod_seq ?_ | refine cod_region ?_ | refine run_nil ?_ | refine pst_then ?_ | (apply cod_cond_f; (focus rfl)) | refine cod_exit ?_ | refine pst_block_here ?_ | refine pst_then_exit ?_))
    rw [hmi]
    refine run_os wt rfl (opr_call_l rfl SW rfl lpa) ?_
    rintro _ _ ⟨_, ⟨rfl, rfl⟩, rfl⟩
    dsimp only [List.cons_append, List.nil_append]
    rw [show P ++ D1 ++ Y ++ [] ++ X ++ (D2 ++ S) = P ++ (D1 ++ Y ++ X ++ D2) ++ S by simp, hE, show P ++ (B ++ A) ++ S = P ++ B ++ A ++ S by simp]
    (repeat' (first | refine run_nil ?_))
    exact pst_fin_end rfl (by exact resa) _ (⟨rfl, rfl⟩) (by exact hsa)
  · have hXt : X = X.take Y.length ++ X.drop Y.length := (List.take_append_drop _ _).symm
    have hx1 : (X.take Y.length).length = Y.length := by rw [List.length_take]; omega
    have hx2 : (X.drop Y.length).length = X.length - Y.length := by rw [List.length_drop]
    generalize X.take Y.length = X1 at *
    generalize X.drop Y.length = X2 at *
    have hxl : X.length = Y.length + X2.length := by omega
    subst hXt
    have hij : ((X1 ++ X2).length : Int) - (Y.length : Int) = (X2.length : Int) := by rw [List.length_append]; omega
    have SW := swapr_any q c cv (P ++ D1) X1 X2 Y (D2 ++ S) Y.length (a + D1.length) m N hx1 rfl (by rw [List.length_append, ha]) (by omega) (by simp only [List.length_append] at hl1 ⊢; omega) hN0 hNb
    rw [show P ++ D1 ++ (X1 ++ X2) ++ Y ++ D2 ++ S = P ++ D1 ++ X1 ++ X2 ++ Y ++ (D2 ++ S) by simp]
    (repeat' (first | (apply run_qg 1; (focus rfl); (focus exact wt); (focus rfl); (focus (exact qg1))) | (apply run_qg 4; (focus rfl); (focus exact wt); (focus rfl); (focus (first | exact qg4 | exact qs4))) | refine cod_seq ?_ | refine cod_region ?_ | refine run_nil ?_ | refine pst_then ?_ | (apply cod_cond_t; (focus rfl)) | refine cod_block ?_ | refine cod_skip ?_))
    rw [hmi]
    refine run_os wt rfl (opr_call_l rfl SW rfl lpa) ?_
    rintro _ _ ⟨_, ⟨rfl, rfl⟩, rfl⟩
    dsimp only [List.cons_append, List.nil_append]
    (repeat' (first | (apply run_qg 1; (focus rfl); (focus exact wt); (focus rfl); (focus (exact qg1))) | (apply run_qg 4; (focus rfl); (focus exact wt); (focus rfl); (focus (first | exact qg4 | exact qs4))) | refine cod_region ?_ | refine run_nil ?_ | refine pst_then ?_ | refine pst_block ?_))
    rw [hij, ← hx1, show P ++ D1 ++ Y ++ X2 ++ X1 ++ (D2 ++ S) = P ++ (D1 ++ Y) ++ X2 ++ X1 ++ D2 ++ S by simp]
    refine pst_again ((D1 ++ Y, X2, X1, D2)) ?_ (FSub.of (by (try dsimp only); exact fsa)) (by (try dsimp only); exact hsa) ?_
    · refine ⟨⟨⟨by dsimp only; omega, by dsimp only; omega⟩, ?_, by dsimp only; omega⟩, ?_⟩
      · dsimp only
        rw [List.length_append] at hl1 ⊢
        omega
      · rw [← hE]; simp
    · dsimp only
      rw [List.length_append]
      omega
end Go.Proofs.Ytppnaofebkpbkaa.hsort
/-
  huff: the comparison of two coins; insertion sort: the walks.
-/
namespace Go.Proofs.Ytppnaofebkpbkaa.hsort
open Go.RowKit kit sl Go.Proofs.Ytppnaofebkpbkaa.srt
set_option linter.unusedVariables false
/-- the comparison's captured variable: which number of a coin counts -/
def KB (b : Nat) : Ent := fro (box b [.func (.func 22) #[] #[]] 48)
theorem KB_x (b : Nat) : (KB b).excl = false := rfl
def cmpV (b : Nat) : Value := .func (.func 33) #[] #[bptr b 0]
theorem q_load_fro {P : Program} {n : Nat} {F : Frm} {H R : List Ent} {o : Oper} {x : Operand} {v z' : Value} {T : TypeId} {b by' : Nat} {t : TypeId} [ht : Ty P T false 1 by' z'] (ho : o.op = .load T x) (hx : ev F x = some (bptr b 0)) (p : Pick (fro (box b [v] t)) H R) : Qt P n o F H v := fun a w ha hw => by
  have hb : (box b [v] t).holds w := by
    have h1 := hw.1 _ p.mem
    exact h1
  have := loadVar_run ht w ⟨b, 0, none⟩ [v] rfl (fun j u hj => by rw [addr_add, Nat.zero_add, box_cells hb]; exact hj) (valOf_one v)
  simp [execOp, ho, ha.eval hx, bptr, Instr.loadAt, Instr.sureAddr, this]
theorem view_kb {S R : List Ent} {b : Nat} (p : Pick (KB b) S R) : View S (KB b) := View.same p rfl
theorem sortW_snoc {α : Type} [Key α] (l : List α) (x : α) : sortW (sortW l ++ [x]) = sortW (l ++ [x]) := by
  have := sortW_app l [x]
  rwa [sortW_of (l := [x]) (List.pairwise_singleton _ _)] at this
instance tyFn : Ty Try.prog 48 false 1 8 .nilFunc := ⟨by kernel_rfl, by rfl⟩
attribute [local irreducible] box own sl old bptr eptr Qt Opr Run Cod Pst Drn
set_option maxRecDepth 100000 in
set_option maxHeartbeats 8000000 in
theorem key_any (x : CV) : Ct Try.prog 22 [.agg (fC x).toArray] [] fun v H' => v = .int .i64 x.1 ∧ H' = [] := by
  obtain ⟨w, q, n, c⟩ := x
  (refine spec_enter Try.func22 Try.ntmps22 rfl rfl fun Fr => ?_; dsimp only [List.cons_append, List.nil_append, ini, Nat.reduceAdd])
  (repeat' (first | (apply run_qg 1; (focus rfl); (focus exact wt); (focus rfl); (focus (exact qg1))) | (apply run_qg 2; (focus rfl); (focus exact wt); (focus rfl); (focus (first | exact qg2 | exact qs2))) | (apply run_qg 3; (focus rfl); (focus exact wt); (focus rfl); (focus (first | exact qg3 | exact qs3))) | refine cod_seq ?_ | refine cod_region ?_ | refine run_nil ?_ | refine pst_then ?_ | refine cod_ret ?_ | (apply run_osg 8; (focus rfl); (focus exact wt); (focus rfl); (focus (exact opr_box_agg rfl rfl)); (rintro _ _ ⟨b, rfl, rfl⟩))))
  exact pst_fin rfl (by exact resa) _ (⟨rfl, rfl⟩) (by exact hsa)
set_option maxRecDepth 100000 in
set_option maxHeartbeats 8000000 in
theorem cmp_any (b : Nat) (x y : CV) (hx : 0 ≤ x.1 ∧ x.1 ≤ 1000000000000) (hy : 0 ≤ y.1 ∧ y.1 ≤ 1000000000000) : Ct Try.prog 33 [.agg (fC x).toArray, .agg (fC y).toArray, bptr b 0] [KB b] fun v H' => v = .int .i64 (x.1 - y.1) ∧ H' = [] := by
  have K1 := key_any x
  have K2 := key_any y
  obtain ⟨xw, xq, xn, xc⟩ := x
  obtain ⟨yw, yq, yn, yc⟩ := y
  dsimp only at hx hy
  (refine spec_enter Try.func33 Try.ntmps33 rfl rfl fun Fr => ?_; dsimp only [List.cons_append, List.nil_append, ini, Nat.reduceAdd])
  (repeat' (first | (apply run_qg 1; (focus rfl); (focus exact wt); (focus rfl); (focus (exact qg1))) | refine cod_seq ?_ | refine cod_region ?_ | refine run_nil ?_ | refine pst_then ?_ | (apply run_osg 8; (focus rfl); (focus exact wt); (focus rfl); (focus (exact opr_box_agg rfl rfl)); (rintro _ _ ⟨b, rfl, rfl⟩))))
  unfold KB
  (refine cod_drawn_ks (Hq := [_, _, _]) [0, 1, 2] [] rfl (by kernel_rfl) (by simp only [List.length_cons, List.length_nil, Nat.reduceAdd]; rfl) ?_)
  (refine drnK_at 0 ?_; refine drnK_take _ rfl rfl wt (by decide +kernel) hsq rfl (q_load_fro rfl rfl pka) ?_)
  (refine drnK_at 3 ?_; refine drnK_take _ rfl rfl wt (by decide +kernel) hsq rfl (q_load_fro rfl rfl pka) ?_)
  (repeat' (first | refine pst_then ?_ | refine cod_ret ?_ | (apply drnK_take 1; (focus rfl); (focus rfl); (focus exact wt); (focus (decide +kernel)); (focus exact hsq); (focus rfl); (focus (exact qg1))) | (apply drnK_take 2; (focus rfl); (focus rfl); (focus exact wt); (focus (decide +kernel)); (focus exact hsq); (focus rfl); (focus (first | exact qg2 | exact qs2))) | (apply drnK_take 4; (focus rfl); (focus rfl); (focus exact wt); (focus (decide +kernel)); (focus exact hsq); (focus rfl); (focus (first | exact qg4 | exact qs4))) | (apply drnK_end; (focus (decide +kernel))) | (apply drnK_done; (focus (decide +kernel))) | (apply drnK_ones 7; (focus rfl); (focus rfl); (focus (decide +kernel)); (focus exact wt); (focus rfl); (focus (exact opr_callv_ls (by rfl) (by rfl) (by rfl) (K1 ..) (by rfl) lpa)); (rintro _ _ ⟨rfl, rfl⟩; refine ⟨(by first | exact fun h => absurd h (by decide) | exact fun _ => hsq), ?_⟩)) | (apply drnK_ones 7; (focus rfl); (focus rfl); (focus (decide +kernel)); (focus exact wt); (focus rfl); (focus (exact opr_callv_ls (by rfl) (by rfl) (by rfl) (K2 ..) (by rfl) lpa)); (rintro _ _ ⟨rfl, rfl⟩; refine ⟨(by first | exact fun h => absurd h (by decide) | exact fun _ => hsq), ?_⟩)) | (apply drnK_skip; (focus rfl)) | (apply drnK_wrap; (focus rfl))))
  exact pst_fin rfl (by exact resa) _ (⟨rfl, rfl⟩) (by exact hsa)
set_option maxRecDepth 100000 in
set_option maxHeartbeats 8000000 in
theorem ins_any (q : Option Addr) (c kb : Nat) (P M S : List CV) (a e N : Nat) (ha : P.length = a) (he : a + M.length = e) (hN : (P ++ M ++ S).length = N) (hN0 : 0 < N) (hNb : N ≤ 1000000000) (hw : ∀ x ∈ M, 0 ≤ x.1 ∧ x.1 ≤ 1000000000000) :
    Ct Try.prog 55 [.slice q N c, .int .i64 (a : Int), .int .i64 (e : Int), cmpV kb] [own (.slice q N c) 44 2 N (flat fC (P ++ M ++ S)), KB kb]
      fun v H' => v = .tuple #[] ∧ H' = [own (.slice q N c) 44 2 N (flat fC (P ++ sortW M ++ S))] := by
  have hlen : P.length + M.length + S.length = N := by rw [← hN]; simp only [List.length_append]
  unfold cmpV
  have h1 : P ++ M ++ S = P ++ sortW (M.take 1) ++ M.drop 1 ++ S := by
    cases M with
    | nil => simp [sortW]
    | cons x M => simp [sortW, ins]
  rw [h1]
  have ha1 : (a : Int) + 1 = ((a + 1 : Nat) : Int) := by omega
  (refine spec_enter Try.func55 Try.ntmps55 rfl rfl fun Fr => ?_; dsimp only [List.cons_append, List.nil_append, ini, Nat.reduceAdd])
  refine cod_shapeN pka (by omega) ?_
  rintro g rfl hc
  (repeat' (first | (apply run_qg 1; (focus rfl); (focus exact wt); (focus rfl); (focus (exact qg1))) | (apply run_qg 4; (focus rfl); (focus exact wt); (focus rfl); (focus (first | exact qg4 | exact qs4))) | refine cod_seq ?_ | refine cod_region ?_ | refine run_nil ?_ | refine pst_then ?_ | refine cod_block ?_))
  rw [ha1]
  (refine cod_loop_rw (σ := Nat) (fun k => 1 ≤ k ∧ (k ≤ M.length ∨ k = 1)) (fun k => [(8, .int .i64 ((a + k : Nat) : Int))]) (fun k => [own (.slice (some ⟨g, 0, none⟩) N c) 44 2 N (flat fC (P ++ sortW (M.take k) ++ M.drop k ++ S))]) _ (fun k => M.length + 1 - k) (1) (by exact ⟨Nat.le_refl _, .inr rfl⟩) (by exact fsa) (by (first | exact HSub.of_picks_rest (by exact pca))) (fun k ⟨hk1, hk2⟩ => ?_); dsimp only [List.cons_append, List.nil_append])
  rcases Nat.lt_or_ge k M.length with hlt | hge
  · obtain ⟨x, hx⟩ : ∃ x, M[k]? = some x := ⟨_, List.getElem?_eq_getElem hlt⟩
    obtain ⟨h3, h4⟩ := List.getElem?_eq_some_iff.1 hx
    have ed : M.drop k = x :: M.drop (k + 1) := by rw [List.drop_eq_getElem_cons h3, h4]
    have et : M.take (k + 1) = M.take k ++ [x] := by rw [List.take_add_one, hx]; rfl
    have hsl : (sortW (M.take k)).length = k := by rw [sortW_len, List.length_take]; omega
    have hsr := sortW_srt (M.take k)
    have hso := sortW_snoc (M.take k) x
    rw [← et] at hso
    have hsm : ∀ y ∈ sortW (M.take k), 0 ≤ y.1 ∧ y.1 ≤ 1000000000000 := fun y hy => hw y (List.mem_of_mem_take (sortW_mem.1 hy))
    have hwx := hw x (List.mem_of_getElem? hx)
    have hdl : (M.drop (k + 1)).length = M.length - (k + 1) := List.length_drop
    have hak : ((a + k : Nat) : Int) + 1 = ((a + (k + 1) : Nat) : Int) := by omega
    have hake : ((a + k : Nat) : Int) < (e : Int) := by omega
    rw [ed]
    generalize hL : sortW (M.take k) = L at *
    generalize hTd : M.drop (k + 1) = T at *
    clear hx h3 h4 ed et hL
    rw [show P ++ L ++ x :: T ++ S = P ++ L ++ [x] ++ [] ++ (T ++ S) by simp]
    (repeat' (first | (apply run_qg 1; (focus rfl); (focus exact wt); (focus rfl); (focus (exact qg1))) | (apply run_qg 4; (focus rfl); (focus exact wt); (focus rfl); (focus (first | exact qg4 | exact qs4))) | refine cod_seq ?_ | refine cod_region ?_ | refine run_nil ?_ | refine pst_then ?_ | (apply cod_cond_t; (focus rfl)) | refine cod_block ?_ | refine cod_skip ?_))
    (refine cod_loop_rw (σ := List CV × List CV × Nat) (fun y => (y.1 ++ y.2.1 = L ∧ ∀ z ∈ y.2.1, x.1 < z.1) ∧ (y.1.length = y.2.2 ∧ y.2.2 ≤ k)) (fun y => [(9, .int .i64 ((a + y.2.2 : Nat) : Int))]) (fun y => [own (.slice (some ⟨g, 0, none⟩) N c) 44 2 N (flat fC (P ++ y.1 ++ [x] ++ y.2.1 ++ (T ++ S)))]) _ (fun y => y.2.2) ((L, [], k)) (by exact ⟨⟨List.append_nil _, fun z hz => absurd hz List.not_mem_nil⟩, hsl, Nat.le_refl _⟩) (by exact fsa) (by (first | exact HSub.of_picks_rest (by exact pca))) (fun ⟨L1, L2, j⟩ ⟨⟨hLL, hL2⟩, hl1, hl2⟩ => ?_); dsimp only [List.cons_append, List.nil_append])
    dsimp only at hLL hL2 hl1 hl2
    have done1 : (L1 = [] ∨ ∀ z ∈ L1, z.1 ≤ x.1) → L1 ++ x :: L2 = sortW (M.take (k + 1)) := fun h => by
      rw [← hso, ← hLL]
      refine put_right (by rw [hLL]; exact hsr) (fun z hz => ?_) hL2
      rcases h with h | h
      · rw [h] at hz; cases hz
      · exact h z hz
    cases j with
    | zero =>
      have hL1 : L1 = [] := List.eq_nil_of_length_eq_zero hl1
      have hd := done1 (.inl hL1)
      clear done1
      (repeat' (first | (apply run_qg 1; (focus rfl); (focus exact wt); (focus rfl); (focus (exact qg1))) | (apply run_qg 4; (focus rfl); (focus exact wt); (focus rfl); (focus (first | exact qg4 | exact qs4))) | refine cod_seq ?_ | refine cod_region ?_ | refine run_nil ?_ | refine pst_then ?_ | (apply cod_cond_f; (focus rfl)) | refine cod_exit ?_ | refine pst_block_here ?_ | refine pst_then_exit ?_ | refine pst_block ?_ | (apply cod_drawn_k; (focus kernel_rfl); (focus (simp only [List.length_cons, List.length_nil, Nat.reduceAdd]; rfl))) | (apply drnK_take 1; (focus rfl); (focus rfl); (focus exact wt); (focus (decide +kernel)); (focus exact hsq); (focus rfl); (focus (exact qg1))) | (apply drnK_take 4; (focus rfl); (focus rfl); (focus exact wt); (focus (decide +kernel)); (focus exact hsq); (focus rfl); (focus (first | exact qg4 | exact qs4))) | (apply drnK_off; (focus rfl); (focus rfl); (focus rfl); (focus (decide +kernel)); (focus exact hsq); (focus rfl)) | (apply drnK_end; (focus (decide +kernel)))))
      rw [show P ++ L1 ++ [x] ++ L2 ++ (T ++ S) = P ++ (L1 ++ x :: L2) ++ T ++ S by simp, hd, hak, ← hTd]
      refine pst_again (k + 1) ?_ (FSub.of (by (try dsimp only); exact fsa)) (by (try dsimp only); exact hsa) ?_
      · exact ⟨by omega, .inl hlt⟩
      · omega
    | succ j =>
      obtain ⟨L0, y, hL0⟩ : ∃ L0 y, L1 = L0 ++ [y] := ⟨L1.dropLast, L1.getLast (fun h => by rw [h] at hl1; simp at hl1), (List.dropLast_concat_getLast _).symm⟩
      subst hL0
      have hl0 : L0.length = j := by rw [List.length_append, List.length_singleton] at hl1; omega
      obtain ⟨z1, z2, _, _, z5, z6⟩ := swap_two (P ++ L0) [] (L2 ++ (T ++ S)) y x (i := a + j) (j := a + (j + 1)) (by rw [List.length_append]; omega) rfl
      have eZ : P ++ (L0 ++ [y]) ++ [x] ++ L2 ++ (T ++ S) = (P ++ L0) ++ y :: ([] ++ x :: (L2 ++ (T ++ S))) := by simp
      have eZ2 : (P ++ L0) ++ x :: ([] ++ y :: (L2 ++ (T ++ S))) = P ++ L0 ++ [x] ++ (y :: L2) ++ (T ++ S) := by simp
      rw [eZ]
      rw [eZ2] at z6
      have hwy : 0 ≤ y.1 ∧ y.1 ≤ 1000000000000 := hsm y (by rw [← hLL]; simp)
      have hJ : ((a + (j + 1) : Nat) : Int) - 1 = ((a + j : Nat) : Int) := by omega
      have hA : a + (j + 1) < N := by omega
      have hB : a + j < N := by omega
      have hlZ : ((P ++ L0) ++ y :: ([] ++ x :: (L2 ++ (T ++ S)))).length = N := by
        have h5 := congrArg List.length hLL
        simp only [List.length_append, List.length_cons, List.length_nil] at h5 hl1 ⊢
        omega
      have CM := cmp_any kb x y hwx hwy
      have eZ' := eZ
      generalize (P ++ L0) ++ y :: ([] ++ x :: (L2 ++ (T ++ S))) = Z at *
      clear eZ
      by_cases hxy : x.1 < y.1
      · have hsub : x.1 - y.1 < 0 := by omega
        (repeat' (first | refine cod_seq ?_))
        (refine cod_drawn_ks (Hq := [_, _]) [0, 1] [] rfl (by kernel_rfl) (by simp only [List.length_cons, List.length_nil, Nat.reduceAdd]; rfl) ?_)
        (repeat' (first | (apply drnK_take 1; (focus rfl); (focus rfl); (focus exact wt); (focus (decide +kernel)); (focus exact hsq); (focus rfl); (focus (exact qg1))) | (apply drnK_take 2; (focus rfl); (focus rfl); (focus exact wt); (focus (decide +kernel)); (focus exact hsq); (focus rfl); (focus (first | exact qg2 | exact qs2))) | (apply drnK_take 3; (focus rfl); (focus rfl); (focus exact wt); (focus (decide +kernel)); (focus exact hsq); (focus rfl); (focus (first | exact qg3 | exact qs3))) | (apply drnK_take 4; (focus rfl); (focus rfl); (focus exact wt); (focus (decide +kernel)); (focus exact hsq); (focus rfl); (focus (first | exact qg4 | exact qs4))) | (apply drnK_done; (focus (decide +kernel))) | (apply drnK_skip; (focus rfl)) | (apply drnK_wrap; (focus rfl))))
        rw [hJ]
        (refine drnK_at 12 ?_; refine drnK_take _ rfl rfl wt (by decide +kernel) hsq rfl (q_index_own rfl rfl rfl pka rfl (by omega)) ?_)
        (repeat' (first | (apply drnK_take 2; (focus rfl); (focus rfl); (focus exact wt); (focus (decide +kernel)); (focus exact hsq); (focus rfl); (focus (first | exact qg2 | exact qs2))) | (apply drnK_skip; (focus rfl))))
        (refine drnK_at 14 ?_; (first | refine drnK_ones _ (by rfl) (by rfl) (by kernel_rfl) wt (by rfl) (by exact (opr_callv_ls (first := []) (cap := [bptr kb 0]) rfl rfl rfl CM rfl (Lp.view (KB_x kb) Lp.nil (view_kb pka)))) ?_ | refine drnK_onen _ (by rfl) (by rfl) (by kernel_rfl) wt (by exact (opr_callv_ls (first := []) (cap := [bptr kb 0]) rfl rfl rfl CM rfl (Lp.view (KB_x kb) Lp.nil (view_kb pka)))) ?_); rintro _ _ ⟨rfl, rfl⟩; refine ⟨(by first | exact fun h => absurd h (by decide) | exact fun _ => hsq), ?_⟩; (try dsimp only [List.cons_append, List.nil_append]))
        (repeat' (first | refine cod_seq ?_ | refine pst_then ?_ | (apply cod_cond_t; (focus rfl)) | refine cod_block ?_ | refine cod_skip ?_ | (apply drnK_take 1; (focus rfl); (focus rfl); (focus exact wt); (focus (decide +kernel)); (focus exact hsq); (focus rfl); (focus (exact qg1))) | (apply drnK_take 4; (focus rfl); (focus rfl); (focus exact wt); (focus (decide +kernel)); (focus exact hsq); (focus rfl); (focus (first | exact qg4 | exact qs4))) | (apply drnK_end; (focus (decide +kernel)))))
        refine cod_pre (by kernel_rfl) (by simp only [List.length_cons, List.length_nil, Nat.reduceAdd]; rfl) ?_
        refine pre_take 0 rfl wt (by decide +kernel) rfl (q_move rfl rfl) ?_
        refine pre_take 1 rfl wt (by decide +kernel) rfl (q_move rfl rfl) ?_
        refine pre_take 2 rfl wt (by decide +kernel) rfl (q_move rfl rfl) ?_
        refine pre_take 3 rfl wt (by decide +kernel) rfl (q_move rfl rfl) ?_
        refine pre_take 4 rfl wt (by decide +kernel) rfl (q_sub rfl rfl rfl (by omega)) ?_
        refine pre_take 5 rfl wt (by decide +kernel) rfl (q_move rfl rfl) ?_
        refine pre_take 6 rfl wt (by decide +kernel) rfl (q_move rfl rfl) ?_
        refine pre_take 7 rfl wt (by decide +kernel) rfl (q_sub rfl rfl rfl (by omega)) ?_
        rw [hJ]
        refine pre_take 8 rfl wt (by decide +kernel) rfl (q_index_at (i := a + j) rfl rfl rfl hB) ?_
        refine pre_take 10 rfl wt (by decide +kernel) rfl (q_move rfl rfl) ?_
        refine pre_take 11 rfl wt (by decide +kernel) rfl (q_move rfl rfl) ?_
        refine pre_take 12 rfl wt (by decide +kernel) rfl (q_index_at (i := a + (j + 1)) rfl rfl rfl hA) ?_
        refine pre_drn (Hq := [own (.slice (some ⟨g, 0, none⟩) N c) 44 2 N (flat fC Z)]) (nk := [15, 16, 17]) (r := 1) (i := 0) ?_
        (repeat' (first | (apply drnK_take 2; (focus rfl); (focus rfl); (focus exact wt); (focus (decide +kernel)); (focus exact hsq); (focus rfl); (focus (first | exact qg2 | exact qs2))) | (apply drnK_take 3; (focus rfl); (focus rfl); (focus exact wt); (focus (decide +kernel)); (focus exact hsq); (focus rfl); (focus (first | exact qg3 | exact qs3))) | (apply drnK_done; (focus (decide +kernel))) | (apply drnK_skip; (focus rfl)) | (apply drnK_wrap; (focus rfl))))
        (refine drnK_at 15 ?_; (first | refine drnK_ones _ (by rfl) (by rfl) (by kernel_rfl) wt (by rfl) (by exact (opr_store_ownm (f := fC) (q' := y) rfl rfl rfl rfl (by exact pka) rfl (by omega) (by intro _; rfl) (by assumption) rfl rfl (by rfl))) ?_ | refine drnK_onen _ (by rfl) (by rfl) (by kernel_rfl) wt (by exact (opr_store_ownm (f := fC) (q' := y) rfl rfl rfl rfl (by exact pka) rfl (by omega) (by intro _; rfl) (by assumption) rfl rfl (by rfl))) ?_); rintro _ _ ⟨rfl, rfl⟩; refine ⟨(by first | exact fun h => absurd h (by decide) | exact fun _ => hsq), ?_⟩; (try dsimp only [List.cons_append, List.nil_append]))
        (refine drnK_at 16 ?_; (first | refine drnK_ones _ (by rfl) (by rfl) (by kernel_rfl) wt (by rfl) (by exact (opr_of_qt (q_index_own (i := a + j) rfl rfl rfl pka (by omega) (by omega)))) ?_ | refine drnK_onen _ (by rfl) (by rfl) (by kernel_rfl) wt (by exact (opr_of_qt (q_index_own (i := a + j) rfl rfl rfl pka (by omega) (by omega)))) ?_); rintro _ _ ⟨rfl, rfl⟩; refine ⟨(by first | exact fun h => absurd h (by decide) | exact fun _ => hsq), ?_⟩; (try dsimp only [List.cons_append, List.nil_append]))
        (refine drnK_at 17 ?_; (first | refine drnK_ones _ (by rfl) (by rfl) (by kernel_rfl) wt (by rfl) (by exact (opr_store_ownm (f := fC) (q' := x) rfl rfl rfl rfl (by exact pka) rfl (by omega) (by intro _; rfl) (by assumption) rfl rfl (by rfl))) ?_ | refine drnK_onen _ (by rfl) (by rfl) (by kernel_rfl) wt (by exact (opr_store_ownm (f := fC) (q' := x) rfl rfl rfl rfl (by exact pka) rfl (by omega) (by intro _; rfl) (by assumption) rfl rfl (by rfl))) ?_); rintro _ _ ⟨rfl, rfl⟩; refine ⟨(by first | exact fun h => absurd h (by decide) | exact fun _ => hsq), ?_⟩; (try dsimp only [List.cons_append, List.nil_append]))
        rw [z6]
        (repeat' (first | (apply run_qg 1; (focus rfl); (focus exact wt); (focus rfl); (focus (exact qg1))) | (apply run_qg 4; (focus rfl); (focus exact wt); (focus rfl); (focus (first | exact qg4 | exact qs4))) | refine cod_region ?_ | refine run_nil ?_ | refine pst_then ?_ | refine pst_block ?_ | (apply drnK_end; (focus (decide +kernel)))))
        rw [hJ]
        refine pst_again ((L0, y :: L2, j)) ?_ (FSub.of (by (try dsimp only); exact fsa)) (by (try dsimp only); exact hsa) ?_
        · refine ⟨⟨by rw [← hLL]; simp, fun z hz => ?_⟩, hl0, by dsimp only; omega⟩
          rcases List.mem_cons.1 hz with rfl | hz
          · exact hxy
          · exact hL2 z hz
        · dsimp only; omega
      · have hsub : ¬ x.1 - y.1 < 0 := by omega
        have hd := done1 (.inr fun z hz => by
          have h5 : Srt (L0 ++ [y] ++ L2) := by rw [hLL]; exact hsr
          have h6 := (srt_app.1 (srt_app.1 h5).1).2.2
          rcases List.mem_append.1 hz with hz | hz
          · have h7 : z.1 ≤ y.1 := h6 z hz y List.mem_cons_self
            omega
          · rw [List.mem_singleton.1 hz]; omega)
        (repeat' (first | refine cod_seq ?_))
        (refine cod_drawn_ks (Hq := [_, _]) [0, 1] [] rfl (by kernel_rfl) (by simp only [List.length_cons, List.length_nil, Nat.reduceAdd]; rfl) ?_)
        (repeat' (first | (apply drnK_take 1; (focus rfl); (focus rfl); (focus exact wt); (focus (decide +kernel)); (focus exact hsq); (focus rfl); (focus (exact qg1))) | (apply drnK_take 2; (focus rfl); (focus rfl); (focus exact wt); (focus (decide +kernel)); (focus exact hsq); (focus rfl); (focus (first | exact qg2 | exact qs2))) | (apply drnK_take 3; (focus rfl); (focus rfl); (focus exact wt); (focus (decide +kernel)); (focus exact hsq); (focus rfl); (focus (first | exact qg3 | exact qs3))) | (apply drnK_take 4; (focus rfl); (focus rfl); (focus exact wt); (focus (decide +kernel)); (focus exact hsq); (focus rfl); (focus (first | exact qg4 | exact qs4))) | (apply drnK_done; (focus (decide +kernel))) | (apply drnK_skip; (focus rfl)) | (apply drnK_wrap; (focus rfl))))
        rw [hJ]
        (refine drnK_at 12 ?_; refine drnK_take _ rfl rfl wt (by decide +kernel) hsq rfl (q_index_own rfl rfl rfl pka rfl (by omega)) ?_)
        (repeat' (first | (apply drnK_take 2; (focus rfl); (focus rfl); (focus exact wt); (focus (decide +kernel)); (focus exact hsq); (focus rfl); (focus (first | exact qg2 | exact qs2))) | (apply drnK_skip; (focus rfl))))
        (refine drnK_at 14 ?_; (first | refine drnK_ones _ (by rfl) (by rfl) (by kernel_rfl) wt (by rfl) (by exact (opr_callv_ls (first := []) (cap := [bptr kb 0]) rfl rfl rfl CM rfl (Lp.view (KB_x kb) Lp.nil (view_kb pka)))) ?_ | refine drnK_onen _ (by rfl) (by rfl) (by kernel_rfl) wt (by exact (opr_callv_ls (first := []) (cap := [bptr kb 0]) rfl rfl rfl CM rfl (Lp.view (KB_x kb) Lp.nil (view_kb pka)))) ?_); rintro _ _ ⟨rfl, rfl⟩; refine ⟨(by first | exact fun h => absurd h (by decide) | exact fun _ => hsq), ?_⟩; (try dsimp only [List.cons_append, List.nil_append]))
        (repeat' (first | (apply run_qg 1; (focus rfl); (focus exact wt); (focus rfl); (focus (exact qg1))) | (apply run_qg 4; (focus rfl); (focus exact wt); (focus rfl); (focus (first | exact qg4 | exact qs4))) | refine cod_region ?_ | refine run_nil ?_ | refine pst_then ?_ | (apply cod_cond_f; (focus rfl)) | refine cod_exit ?_ | refine pst_block_here ?_ | refine pst_then_exit ?_ | refine pst_block ?_ | (apply drnK_take 1; (focus rfl); (focus rfl); (focus exact wt); (focus (decide +kernel)); (focus exact hsq); (focus rfl); (focus (exact qg1))) | (apply drnK_take 4; (focus rfl); (focus rfl); (focus exact wt); (focus (decide +kernel)); (focus exact hsq); (focus rfl); (focus (first | exact qg4 | exact qs4))) | (apply drnK_end; (focus (decide +kernel)))))
        rw [← eZ', show P ++ (L0 ++ [y]) ++ [x] ++ L2 ++ (T ++ S) = P ++ (L0 ++ [y] ++ x :: L2) ++ T ++ S by simp, hd, hak, ← hTd]
        refine pst_again (k + 1) ?_ (FSub.of (by (try dsimp only); exact fsa)) (by (try dsimp only); exact hsa) ?_
        · exact ⟨by omega, .inl hlt⟩
        · omega
  · have hM : M.take k = M := List.take_of_length_le hge
    have hMd : M.drop k = [] := List.drop_of_length_le hge
    rw [hM, hMd, List.append_nil]
    (repeat' (first | (apply run_qg 1; (focus rfl); (focus exact wt); (focus rfl); (focus (exact qg1))) | (apply run_qg 4; (focus rfl); (focus exact wt); (focus rfl); (focus (first | exact qg4 | exact qs4))) | refine cod_seq ?_ | refine cod_region ?_ | refine run_nil ?_ | refine pst_then ?_ | (apply cod_cond_f; (focus rfl)) | refine cod_exit ?_ | refine pst_block_here ?_ | refine pst_then_exit ?_))
    exact pst_fin_end rfl (by exact resa) _ (⟨rfl, rfl⟩) (by exact hsa)
end Go.Proofs.Ytppnaofebkpbkaa.hsort
/-
  huff: slices.symMergeCmpFunc of coins: the walk (printed by gen_huffsort.py).
-/
namespace Go.Proofs.Ytppnaofebkpbkaa.hsort
open Go.RowKit kit sl Go.Proofs.Ytppnaofebkpbkaa.srt
set_option linter.unusedVariables false
theorem at_a {α : Type} {P A B S : List α} {a t : Nat} {x : α} (ha : P.length = a) (h : A[t]? = some x) : (P ++ A ++ B ++ S)[a + t]? = some x := by
  have hl := (List.getElem?_eq_some_iff.1 h).1
  rw [List.append_assoc, List.append_assoc, List.getElem?_append_right (by omega), List.getElem?_append_left (by omega), ← h]
  congr 1
  omega
theorem at_b {α : Type} {P A B S : List α} {m t : Nat} {x : α} (hm : P.length + A.length = m) (h : B[t]? = some x) : (P ++ A ++ B ++ S)[m + t]? = some x := by
  have hl := (List.getElem?_eq_some_iff.1 h).1
  rw [List.append_assoc, List.getElem?_append_right (by rw [List.length_append]; omega), List.getElem?_append_left (by rw [List.length_append]; omega), ← h]
  congr 1
  rw [List.length_append]
  omega
theorem srt_le {l : List CV} (h : Srt l) {i j : Nat} {x y : CV} (hij : i ≤ j) (hx : l[i]? = some x) (hy : l[j]? = some y) : x.1 ≤ y.1 := by
  obtain ⟨h1, h2⟩ := List.getElem?_eq_some_iff.1 hx
  obtain ⟨h3, h4⟩ := List.getElem?_eq_some_iff.1 hy
  by_cases e : i = j
  · subst e
    rw [hx] at hy
    cases hy
    exact Int.le_refl _
  · have := List.pairwise_iff_getElem.1 h i j h1 h3 (by omega)
    rw [h2, h4] at this
    exact this
theorem mem_take {α : Type} {l : List α} {k : Nat} {x : α} (h : x ∈ l.take k) : ∃ i, i < k ∧ l[i]? = some x := by
  obtain ⟨i, hi⟩ := List.mem_iff_getElem?.1 h
  rw [List.getElem?_take] at hi
  split at hi
  · exact ⟨i, by assumption, hi⟩
  · cases hi
theorem mem_drop {α : Type} {l : List α} {k : Nat} {x : α} (h : x ∈ l.drop k) : ∃ i, k ≤ i ∧ l[i]? = some x := by
  obtain ⟨i, hi⟩ := List.mem_iff_getElem?.1 h
  rw [List.getElem?_drop] at hi
  exact ⟨k + i, by omega, hi⟩
/-- one coin, put among others that are sorted: all steps of it -/
def mv (P B S : List CV) (x : CV) (t : Nat) : List CV := P ++ B.take t ++ x :: (B.drop t ++ S)
theorem mv_swap (P B S : List CV) (x : CV) {t a : Nat} {b : CV} (ha : P.length = a) (hb : B[t]? = some b) :
    (mv P B S x t)[a + t]? = some x ∧ (mv P B S x t)[a + (t + 1)]? = some b ∧ ((mv P B S x t).set (a + t) b)[a + (t + 1)]? = some b ∧ ((mv P B S x t).set (a + t) b).set (a + (t + 1)) x = mv P B S x (t + 1) ∧
    (mv P B S x (t + 1))[a + t]? = some b ∧ (mv P B S x (t + 1))[a + (t + 1)]? = some x ∧ ((mv P B S x (t + 1)).set (a + (t + 1)) b)[a + t]? = some b ∧ ((mv P B S x (t + 1)).set (a + (t + 1)) b).set (a + t) x = mv P B S x t := by
  obtain ⟨h1, h2⟩ := List.getElem?_eq_some_iff.1 hb
  have ed : B.drop t = b :: B.drop (t + 1) := by rw [List.drop_eq_getElem_cons h1, h2]
  have et : B.take (t + 1) = B.take t ++ [b] := by rw [List.take_add_one, hb]; rfl
  have e1 : mv P B S x t = (P ++ B.take t) ++ x :: ([] ++ b :: (B.drop (t + 1) ++ S)) := by unfold mv; rw [ed]; simp
  have e2 : mv P B S x (t + 1) = (P ++ B.take t) ++ b :: ([] ++ x :: (B.drop (t + 1) ++ S)) := by unfold mv; rw [et]; simp
  have hl : (P ++ B.take t).length = a + t := by rw [List.length_append, List.length_take]; omega
  have g1 := swap_two (P ++ B.take t) [] (B.drop (t + 1) ++ S) x b (i := a + t) (j := a + (t + 1)) hl rfl
  have g2 := swap_two (P ++ B.take t) [] (B.drop (t + 1) ++ S) b x (i := a + t) (j := a + (t + 1)) hl rfl
  rw [← e1, ← e2] at g1 g2
  exact ⟨g1.1, g1.2.1, g1.2.2.1, g1.2.2.2.1, g2.1, g2.2.1, g2.2.2.2.2.1, g2.2.2.2.2.2⟩
theorem mv_len (P B S : List CV) (x : CV) (t : Nat) : (mv P B S x t).length = P.length + B.length + 1 + S.length := by
  unfold mv
  simp only [List.length_append, List.length_cons, List.length_take, List.length_drop]
  omega
attribute [local irreducible] box own sl old bptr eptr Qt Opr Run Cod Pst Drn
set_option maxRecDepth 100000 in
set_option maxHeartbeats 8000000 in
theorem sym_left (q : Option Addr) (c kb : Nat) (P B S : List CV) (x : CV) (a e N : Nat) (ha : P.length = a) (he : a + 1 + B.length = e) (hN : P.length + B.length + 1 + S.length = N) (hNb : N ≤ 1000000000) (hwx : 0 ≤ x.1 ∧ x.1 ≤ 1000000000000) (hw : ∀ y ∈ B, 0 ≤ y.1 ∧ y.1 ≤ 1000000000000) (hs : Srt B) :
    Ct Try.prog 56 [.slice q N c, .int .i64 (a : Int), .int .i64 ((a + 1 : Nat) : Int), .int .i64 (e : Int), cmpV kb] [own (.slice q N c) 44 2 N (flat fC (P ++ [x] ++ B ++ S)), KB kb]
      fun v H' => v = .tuple #[] ∧ H' = [own (.slice q N c) 44 2 N (flat fC (P ++ sortW (x :: B) ++ S))] := by
  subst he
  unfold cmpV
  rw [show P ++ [x] ++ B ++ S = mv P B S x 0 by simp [mv]]
  have hZl := mv_len P B S x
  have hx0 : (mv P B S x 0)[a + 0]? = some x := by unfold mv; rw [List.take_zero, List.append_nil]; exact get_mid _ _ _ ha
  rw [Nat.add_zero] at hx0
  have hBt : ∀ (t : Nat) (y : CV), B[t]? = some y → (mv P B S x 0)[a + 1 + t]? = some y := fun t y hy => by
    rw [show mv P B S x 0 = P ++ [x] ++ B ++ S by simp [mv]]
    exact at_b (by rw [ha]; rfl) hy
  (refine spec_enter Try.func56 Try.ntmps56 rfl rfl fun Fr => ?_; dsimp only [List.cons_append, List.nil_append, ini, Nat.reduceAdd])
  refine cod_shapeN pka (by omega) ?_
  rintro g rfl hc
  (repeat' (first | (apply run_qg 1; (focus rfl); (focus exact wt); (focus rfl); (focus (exact qg1))) | (apply run_qg 4; (focus rfl); (focus exact wt); (focus rfl); (focus (first | exact qg4 | exact qs4))) | refine cod_seq ?_ | refine cod_region ?_ | refine run_nil ?_ | refine pst_then ?_ | (apply cod_cond_t; (focus rfl)) | refine cod_block ?_))
  (refine cod_loop_rw (σ := Nat × Nat) (fun y => (y.1 ≤ y.2 ∧ y.2 ≤ B.length) ∧ (∀ t z, B[t]? = some z → t < y.1 → z.1 < x.1) ∧ ∀ t z, B[t]? = some z → y.2 ≤ t → x.1 ≤ z.1) (fun y => [(10, .int .i64 ((a + 1 + y.1 : Nat) : Int)), (11, .int .i64 ((a + 1 + y.2 : Nat) : Int))]) (fun y => [own (.slice (some ⟨g, 0, none⟩) N c) 44 2 N (flat fC (mv P B S x 0))]) _ (fun y => y.2 - y.1) ((0, B.length)) (by exact ⟨⟨Nat.zero_le _, Nat.le_refl _⟩, fun t z _ h => absurd h (Nat.not_lt_zero _), fun t z h h2 => by have := (List.getElem?_eq_some_iff.1 h).1; dsimp only at h2; omega⟩) (by exact fsa) (by (first | exact HSub.of_picks_rest (by exact pca))) (fun ⟨u, v⟩ ⟨⟨huv, hvl⟩, hu, hv⟩ => ?_); dsimp only [List.cons_append, List.nil_append])
  dsimp only at huv hvl hu hv
  rcases Nat.lt_or_ge u v with hlt | hge
  · obtain ⟨w, hw2⟩ : ∃ w, (u + v) / 2 = w := ⟨_, rfl⟩
    have hwu : u ≤ w ∧ w < v := by omega
    obtain ⟨y, hy⟩ : ∃ y, B[w]? = some y := ⟨_, List.getElem?_eq_getElem (by omega)⟩
    have hyl := hBt w y hy
    have hh : (((a + 1 + u : Nat) : Int) + ((a + 1 + v : Nat) : Int)) / 2 = ((a + 1 + w : Nat) : Int) := by omega
    have hwy := hw y (List.mem_of_getElem? hy)
    have CM := cmp_any kb y x hwy hwx
    have hi1 : a + 1 + w < N := by omega
    have hi2 : a < N := by omega
    generalize hZ : mv P B S x 0 = Z at *
    by_cases hyx : y.1 < x.1
    · have hsub : y.1 - x.1 < 0 := by omega
      (repeat' (first | (apply run_qg 1; (focus rfl); (focus exact wt); (focus rfl); (focus (exact qg1))) | (apply run_qg 4; (focus rfl); (focus exact wt); (focus rfl); (focus (first | exact qg4 | exact qs4))) | (apply run_qg 11; (focus rfl); (focus exact wt); (focus rfl); (focus (exact qs11))) | refine cod_seq ?_ | refine cod_region ?_ | refine run_nil ?_ | refine pst_then ?_ | (apply cod_cond_t; (focus rfl)) | refine cod_block ?_ | refine cod_skip ?_ | (apply cod_drawn_k; (focus kernel_rfl); (focus (simp only [List.length_cons, List.length_nil, Nat.reduceAdd]; rfl))) | (apply drnK_take 1; (focus rfl); (focus rfl); (focus exact wt); (focus (decide +kernel)); (focus exact hsq); (focus rfl); (focus (exact qg1))) | (apply drnK_take 2; (focus rfl); (focus rfl); (focus exact wt); (focus (decide +kernel)); (focus exact hsq); (focus rfl); (focus (first | exact qg2 | exact qs2))) | (apply drnK_take 3; (focus rfl); (focus rfl); (focus exact wt); (focus (decide +kernel)); (focus exact hsq); (focus rfl); (focus (first | exact qg3 | exact qs3))) | (apply drnK_done; (focus (decide +kernel))) | (apply drnK_skip; (focus rfl)) | (apply drnK_wrap; (focus rfl))))
      rw [hh]
      (refine drnK_at 3 ?_; refine drnK_take _ rfl rfl wt (by decide +kernel) hsq rfl (q_index_own rfl rfl rfl pka rfl (by omega)) ?_)
      (repeat' (first | (apply drnK_take 2; (focus rfl); (focus rfl); (focus exact wt); (focus (decide +kernel)); (focus exact hsq); (focus rfl); (focus (first | exact qg2 | exact qs2))) | (apply drnK_done; (focus (decide +kernel))) | (apply drnK_skip; (focus rfl))))
      (refine drnK_at 9 ?_; (first | refine drnK_ones _ (by rfl) (by rfl) (by kernel_rfl) wt (by rfl) (by exact (opr_callv_ls (first := []) (cap := [bptr kb 0]) rfl rfl rfl CM rfl (Lp.view (KB_x kb) Lp.nil (view_kb pka)))) ?_ | refine drnK_onen _ (by rfl) (by rfl) (by kernel_rfl) wt (by exact (opr_callv_ls (first := []) (cap := [bptr kb 0]) rfl rfl rfl CM rfl (Lp.view (KB_x kb) Lp.nil (view_kb pka)))) ?_); rintro _ _ ⟨rfl, rfl⟩; refine ⟨(by first | exact fun h => absurd h (by decide) | exact fun _ => hsq), ?_⟩; (try dsimp only [List.cons_append, List.nil_append]))
      (repeat' (first | (apply run_qg 1; (focus rfl); (focus exact wt); (focus rfl); (focus (exact qg1))) | (apply run_qg 4; (focus rfl); (focus exact wt); (focus rfl); (focus (first | exact qg4 | exact qs4))) | refine cod_region ?_ | refine run_nil ?_ | refine pst_then ?_ | (apply cod_cond_t; (focus rfl)) | refine pst_block ?_ | (apply drnK_take 4; (focus rfl); (focus rfl); (focus exact wt); (focus (decide +kernel)); (focus exact hsq); (focus rfl); (focus (first | exact qg4 | exact qs4))) | (apply drnK_end; (focus (decide +kernel)))))
      rw [← hZ]
      refine pst_again ((w + 1, v)) ?_ (FSub.of (by (try dsimp only); exact fsa)) (by (try dsimp only); exact hsa) ?_
      · refine ⟨⟨by dsimp only; omega, hvl⟩, fun t z hz ht => ?_, hv⟩
        have := srt_le hs (by dsimp only at ht; omega : t ≤ w) hz hy
        omega
      · dsimp only; omega
    · have hsub : ¬ y.1 - x.1 < 0 := by omega
      (repeat' (first | (apply run_qg 1; (focus rfl); (focus exact wt); (focus rfl); (focus (exact qg1))) | (apply run_qg 4; (focus rfl); (focus exact wt); (focus rfl); (focus (first | exact qg4 | exact qs4))) | (apply run_qg 11; (focus rfl); (focus exact wt); (focus rfl); (focus (exact qs11))) | refine cod_seq ?_ | refine cod_region ?_ | refine run_nil ?_ | refine pst_then ?_ | (apply cod_cond_t; (focus rfl)) | refine cod_block ?_ | refine cod_skip ?_ | (apply cod_drawn_k; (focus kernel_rfl); (focus (simp only [List.length_cons, List.length_nil, Nat.reduceAdd]; rfl))) | (apply drnK_take 1; (focus rfl); (focus rfl); (focus exact wt); (focus (decide +kernel)); (focus exact hsq); (focus rfl); (focus (exact qg1))) | (apply drnK_take 2; (focus rfl); (focus rfl); (focus exact wt); (focus (decide +kernel)); (focus exact hsq); (focus rfl); (focus (first | exact qg2 | exact qs2))) | (apply drnK_take 3; (focus rfl); (focus rfl); (focus exact wt); (focus (decide +kernel)); (focus exact hsq); (focus rfl); (focus (first | exact qg3 | exact qs3))) | (apply drnK_done; (focus (decide +kernel))) | (apply drnK_skip; (focus rfl)) | (apply drnK_wrap; (focus rfl))))
      rw [hh]
      (refine drnK_at 3 ?_; refine drnK_take _ rfl rfl wt (by decide +kernel) hsq rfl (q_index_own rfl rfl rfl pka rfl (by omega)) ?_)
      (repeat' (first | (apply drnK_take 2; (focus rfl); (focus rfl); (focus exact wt); (focus (decide +kernel)); (focus exact hsq); (focus rfl); (focus (first | exact qg2 | exact qs2))) | (apply drnK_done; (focus (decide +kernel))) | (apply drnK_skip; (focus rfl))))
      (refine drnK_at 9 ?_; (first | refine drnK_ones _ (by rfl) (by rfl) (by kernel_rfl) wt (by rfl) (by exact (opr_callv_ls (first := []) (cap := [bptr kb 0]) rfl rfl rfl CM rfl (Lp.view (KB_x kb) Lp.nil (view_kb pka)))) ?_ | refine drnK_onen _ (by rfl) (by rfl) (by kernel_rfl) wt (by exact (opr_callv_ls (first := []) (cap := [bptr kb 0]) rfl rfl rfl CM rfl (Lp.view (KB_x kb) Lp.nil (view_kb pka)))) ?_); rintro _ _ ⟨rfl, rfl⟩; refine ⟨(by first | exact fun h => absurd h (by decide) | exact fun _ => hsq), ?_⟩; (try dsimp only [List.cons_append, List.nil_append]))
      (repeat' (first | (apply run_qg 1; (focus rfl); (focus exact wt); (focus rfl); (focus (exact qg1))) | refine cod_region ?_ | refine run_nil ?_ | refine pst_then ?_ | (apply cod_cond_f; (focus rfl)) | refine pst_block ?_ | (apply drnK_take 4; (focus rfl); (focus rfl); (focus exact wt); (focus (decide +kernel)); (focus exact hsq); (focus rfl); (focus (first | exact qg4 | exact qs4))) | (apply drnK_end; (focus (decide +kernel)))))
      rw [← hZ]
      refine pst_again ((u, w)) ?_ (FSub.of (by (try dsimp only); exact fsa)) (by (try dsimp only); exact hsa) ?_
      · refine ⟨⟨by dsimp only; omega, by dsimp only; omega⟩, hu, fun t z hz ht => ?_⟩
        have := srt_le hs (by dsimp only at ht; omega : w ≤ t) hy hz
        omega
      · dsimp only; omega
  · have huv2 : v = u := by omega
    subst huv2
    have hfin : P ++ sortW (x :: B) ++ S = mv P B S x v := by
      have h1 := put_left (a := B.take v) (b := B.drop v) (x := x) (by rw [List.take_append_drop]; exact hs) (fun z hz => by
        obtain ⟨i, hi, h2⟩ := mem_take hz
        exact hu i z h2 hi) (fun z hz => by
        obtain ⟨i, hi, h2⟩ := mem_drop hz
        exact hv i z h2 hi)
      rw [List.take_append_drop] at h1
      rw [← h1]
      simp [mv]
    rw [hfin]
    have hstep := fun (t : Nat) (b : CV) => mv_swap P B S x (t := t) (a := a) (b := b) ha
    have hdec : ((a + 1 + v : Nat) : Int) - 1 = ((a + v : Nat) : Int) := by omega
    clear hu hv hfin hBt hx0
    (repeat' (first | (apply run_qg 1; (focus rfl); (focus exact wt); (focus rfl); (focus (exact qg1))) | (apply run_qg 4; (focus rfl); (focus exact wt); (focus rfl); (focus (first | exact qg4 | exact qs4))) | refine cod_seq ?_ | refine cod_region ?_ | refine run_nil ?_ | refine pst_then ?_ | (apply cod_cond_f; (focus rfl)) | refine cod_block ?_ | refine cod_exit ?_ | refine pst_block_here ?_ | refine pst_then_exit ?_))
    (refine cod_loop_rw (σ := Nat) (fun t => t ≤ v) (fun t => [(13, .int .i64 ((a + t : Nat) : Int))]) (fun t => [own (.slice (some ⟨g, 0, none⟩) N c) 44 2 N (flat fC (mv P B S x t))]) _ (fun t => v - t) (0) (by exact Nat.zero_le _) (by exact fsa) (by (first | exact HSub.of_picks_rest (by exact pca))) (fun t ht => ?_); dsimp only [List.cons_append, List.nil_append])
    rcases Nat.lt_or_ge t v with htl | htg
    · obtain ⟨b, hb⟩ : ∃ b, B[t]? = some b := ⟨_, List.getElem?_eq_getElem (by omega)⟩
      obtain ⟨z1, z2, z3, z4, _⟩ := hstep t b hb
      have hJ : ((a + t : Nat) : Int) + 1 = ((a + (t + 1) : Nat) : Int) := by omega
      have hA : a + t < N := by omega
      have hB : a + (t + 1) < N := by omega
      have hlZ := hZl t
      rw [hN] at hlZ
      generalize mv P B S x t = Z at *
      (repeat' (first | (apply run_qg 1; (focus rfl); (focus exact wt); (focus rfl); (focus (exact qg1))) | (apply run_qg 4; (focus rfl); (focus exact wt); (focus rfl); (focus (first | exact qg4 | exact qs4))) | refine cod_seq ?_ | refine cod_region ?_ | refine run_nil ?_ | refine pst_then ?_ | (apply cod_cond_t; (focus rfl)) | refine cod_block ?_ | refine cod_skip ?_))
      refine cod_pre (by kernel_rfl) (by simp only [List.length_cons, List.length_nil, Nat.reduceAdd]; rfl) ?_
      refine pre_take 0 rfl wt (by decide +kernel) rfl (q_move rfl rfl) ?_
      refine pre_take 1 rfl wt (by decide +kernel) rfl (q_move rfl rfl) ?_
      refine pre_take 2 rfl wt (by decide +kernel) rfl (q_move rfl rfl) ?_
      refine pre_take 3 rfl wt (by decide +kernel) rfl (q_move rfl rfl) ?_
      refine pre_take 4 rfl wt (by decide +kernel) rfl (q_add rfl rfl rfl (by omega)) ?_
      refine pre_take 5 rfl wt (by decide +kernel) rfl (q_move rfl rfl) ?_
      refine pre_take 6 rfl wt (by decide +kernel) rfl (q_move rfl rfl) ?_
      refine pre_take 7 rfl wt (by decide +kernel) rfl (q_add rfl rfl rfl (by omega)) ?_
      rw [hJ]
      refine pre_take 8 rfl wt (by decide +kernel) rfl (q_index_at (i := a + (t + 1)) rfl rfl rfl hB) ?_
      refine pre_take 10 rfl wt (by decide +kernel) rfl (q_move rfl rfl) ?_
      refine pre_take 11 rfl wt (by decide +kernel) rfl (q_move rfl rfl) ?_
      refine pre_take 12 rfl wt (by decide +kernel) rfl (q_index_at (i := a + t) rfl rfl rfl hA) ?_
      refine pre_drn (Hq := [own (.slice (some ⟨g, 0, none⟩) N c) 44 2 N (flat fC Z)]) (nk := [15, 16, 17]) (r := 1) (i := 0) ?_
      (repeat' (first | (apply drnK_take 2; (focus rfl); (focus rfl); (focus exact wt); (focus (decide +kernel)); (focus exact hsq); (focus rfl); (focus (first | exact qg2 | exact qs2))) | (apply drnK_take 3; (focus rfl); (focus rfl); (focus exact wt); (focus (decide +kernel)); (focus exact hsq); (focus rfl); (focus (first | exact qg3 | exact qs3))) | (apply drnK_done; (focus (decide +kernel))) | (apply drnK_skip; (focus rfl)) | (apply drnK_wrap; (focus rfl))))
      (refine drnK_at 15 ?_; (first | refine drnK_ones _ (by rfl) (by rfl) (by kernel_rfl) wt (by rfl) (by exact (opr_store_ownm (f := fC) (q' := b) rfl rfl rfl rfl (by exact pka) rfl (by omega) (by intro _; rfl) (by assumption) rfl rfl (by rfl))) ?_ | refine drnK_onen _ (by rfl) (by rfl) (by kernel_rfl) wt (by exact (opr_store_ownm (f := fC) (q' := b) rfl rfl rfl rfl (by exact pka) rfl (by omega) (by intro _; rfl) (by assumption) rfl rfl (by rfl))) ?_); rintro _ _ ⟨rfl, rfl⟩; refine ⟨(by first | exact fun h => absurd h (by decide) | exact fun _ => hsq), ?_⟩; (try dsimp only [List.cons_append, List.nil_append]))
      (refine drnK_at 16 ?_; (first | refine drnK_ones _ (by rfl) (by rfl) (by kernel_rfl) wt (by rfl) (by exact (opr_of_qt (q_index_own (i := a + (t + 1)) rfl rfl rfl pka (by omega) (by omega)))) ?_ | refine drnK_onen _ (by rfl) (by rfl) (by kernel_rfl) wt (by exact (opr_of_qt (q_index_own (i := a + (t + 1)) rfl rfl rfl pka (by omega) (by omega)))) ?_); rintro _ _ ⟨rfl, rfl⟩; refine ⟨(by first | exact fun h => absurd h (by decide) | exact fun _ => hsq), ?_⟩; (try dsimp only [List.cons_append, List.nil_append]))
      (refine drnK_at 17 ?_; (first | refine drnK_ones _ (by rfl) (by rfl) (by kernel_rfl) wt (by rfl) (by exact (opr_store_ownm (f := fC) (q' := x) rfl rfl rfl rfl (by exact pka) rfl (by omega) (by intro _; rfl) (by assumption) rfl rfl (by rfl))) ?_ | refine drnK_onen _ (by rfl) (by rfl) (by kernel_rfl) wt (by exact (opr_store_ownm (f := fC) (q' := x) rfl rfl rfl rfl (by exact pka) rfl (by omega) (by intro _; rfl) (by assumption) rfl rfl (by rfl))) ?_); rintro _ _ ⟨rfl, rfl⟩; refine ⟨(by first | exact fun h => absurd h (by decide) | exact fun _ => hsq), ?_⟩; (try dsimp only [List.cons_append, List.nil_append]))
      rw [z4]
      (repeat' (first | (apply run_qg 1; (focus rfl); (focus exact wt); (focus rfl); (focus (exact qg1))) | (apply run_qg 4; (focus rfl); (focus exact wt); (focus rfl); (focus (first | exact qg4 | exact qs4))) | refine cod_region ?_ | refine run_nil ?_ | refine pst_then ?_ | refine pst_block ?_ | (apply drnK_end; (focus (decide +kernel)))))
      rw [hJ]
      refine pst_again (t + 1) ?_ (FSub.of (by (try dsimp only); exact fsa)) (by (try dsimp only); exact hsa) ?_
      · exact htl
      · omega
    · have : t = v := by omega
      subst this
      (repeat' (first | (apply run_qg 1; (focus rfl); (focus exact wt); (focus rfl); (focus (exact qg1))) | (apply run_qg 4; (focus rfl); (focus exact wt); (focus rfl); (focus (first | exact qg4 | exact qs4))) | refine cod_seq ?_ | refine cod_region ?_ | refine run_nil ?_ | refine pst_then ?_ | (apply cod_cond_f; (focus rfl)) | refine cod_exit ?_ | refine cod_ret ?_ | refine pst_block_here ?_ | refine pst_then_exit ?_ | refine pst_then_ret ?_))
      exact pst_fin rfl (by exact resa) _ (⟨rfl, rfl⟩) (by exact hsa)
set_option maxRecDepth 100000 in
set_option maxHeartbeats 8000000 in
theorem sym_right (q : Option Addr) (c kb : Nat) (P A S : List CV) (x : CV) (a m N : Nat) (ha : P.length = a) (hm : a + A.length = m) (hA2 : 2 ≤ A.length) (hN : P.length + A.length + 1 + S.length = N) (hNb : N ≤ 1000000000) (hwx : 0 ≤ x.1 ∧ x.1 ≤ 1000000000000) (hw : ∀ y ∈ A, 0 ≤ y.1 ∧ y.1 ≤ 1000000000000) (hs : Srt A) :
    Ct Try.prog 56 [.slice q N c, .int .i64 (a : Int), .int .i64 (m : Int), .int .i64 ((m + 1 : Nat) : Int), cmpV kb] [own (.slice q N c) 44 2 N (flat fC (P ++ A ++ [x] ++ S)), KB kb]
      fun v H' => v = .tuple #[] ∧ H' = [own (.slice q N c) 44 2 N (flat fC (P ++ sortW (A ++ [x]) ++ S))] := by
  subst hm
  unfold cmpV
  have e0 : P ++ A ++ [x] ++ S = mv P A S x A.length := by simp [mv]
  rw [e0]
  have hZl := mv_len P A S x
  have hx0 : (mv P A S x A.length)[a + A.length]? = some x := by
    rw [← e0]
    exact at_b (t := 0) (by rw [ha]; rfl) rfl
  have hAt : ∀ (t : Nat) (y : CV), A[t]? = some y → (mv P A S x A.length)[a + t]? = some y := fun t y hy => by
    rw [← e0]
    exact at_a ha hy
  (refine spec_enter Try.func56 Try.ntmps56 rfl rfl fun Fr => ?_; dsimp only [List.cons_append, List.nil_append, ini, Nat.reduceAdd])
  refine cod_shapeN pka (by omega) ?_
  rintro g rfl hc
  (repeat' (first | (apply run_qg 1; (focus rfl); (focus exact wt); (focus rfl); (focus (exact qg1))) | (apply run_qg 4; (focus rfl); (focus exact wt); (focus rfl); (focus (first | exact qg4 | exact qs4))) | refine cod_seq ?_ | refine cod_region ?_ | refine run_nil ?_ | refine pst_then ?_ | (apply cod_cond_t; (focus rfl)) | (apply cod_cond_f; (focus rfl)) | refine cod_block ?_ | refine cod_skip ?_))
  (refine cod_loop_rw (σ := Nat × Nat) (fun y => (y.1 ≤ y.2 ∧ y.2 ≤ A.length) ∧ (∀ t z, A[t]? = some z → t < y.1 → z.1 ≤ x.1) ∧ ∀ t z, A[t]? = some z → y.2 ≤ t → x.1 < z.1) (fun y => [(14, .int .i64 ((a + y.1 : Nat) : Int)), (15, .int .i64 ((a + y.2 : Nat) : Int))]) (fun y => [own (.slice (some ⟨g, 0, none⟩) N c) 44 2 N (flat fC (mv P A S x A.length))]) _ (fun y => y.2 - y.1) ((0, A.length)) (by exact ⟨⟨Nat.zero_le _, Nat.le_refl _⟩, fun t z _ h => absurd h (Nat.not_lt_zero _), fun t z h h2 => by have := (List.getElem?_eq_some_iff.1 h).1; dsimp only at h2; omega⟩) (by exact fsa) (by (first | exact HSub.of_picks_rest (by exact pca))) (fun ⟨u, v⟩ ⟨⟨huv, hvl⟩, hu, hv⟩ => ?_); dsimp only [List.cons_append, List.nil_append])
  dsimp only at huv hvl hu hv
  rcases Nat.lt_or_ge u v with hlt | hge
  · obtain ⟨w, hw2⟩ : ∃ w, (u + v) / 2 = w := ⟨_, rfl⟩
    have hwu : u ≤ w ∧ w < v := by omega
    obtain ⟨y, hy⟩ : ∃ y, A[w]? = some y := ⟨_, List.getElem?_eq_getElem (by omega)⟩
    have hyl := hAt w y hy
    have hh : (((a + u : Nat) : Int) + ((a + v : Nat) : Int)) / 2 = ((a + w : Nat) : Int) := by omega
    have hwy := hw y (List.mem_of_getElem? hy)
    have CM := cmp_any kb x y hwx hwy
    have hi1 : a + w < N := by omega
    have hi2 : a + A.length < N := by omega
    generalize hZ : mv P A S x A.length = Z at *
    by_cases hyx : x.1 < y.1
    · have hsub : x.1 - y.1 < 0 := by omega
      (repeat' (first | (apply run_qg 1; (focus rfl); (focus exact wt); (focus rfl); (focus (exact qg1))) | (apply run_qg 4; (focus rfl); (focus exact wt); (focus rfl); (focus (first | exact qg4 | exact qs4))) | (apply run_qg 11; (focus rfl); (focus exact wt); (focus rfl); (focus (exact qs11))) | refine cod_seq ?_ | refine cod_region ?_ | refine run_nil ?_ | refine pst_then ?_ | (apply cod_cond_t; (focus rfl)) | refine cod_block ?_ | refine cod_skip ?_ | (apply cod_drawn_k; (focus kernel_rfl); (focus (simp only [List.length_cons, List.length_nil, Nat.reduceAdd]; rfl))) | (apply drnK_take 1; (focus rfl); (focus rfl); (focus exact wt); (focus (decide +kernel)); (focus exact hsq); (focus rfl); (focus (exact qg1))) | (apply drnK_take 2; (focus rfl); (focus rfl); (focus exact wt); (focus (decide +kernel)); (focus exact hsq); (focus rfl); (focus (first | exact qg2 | exact qs2))) | (apply drnK_take 3; (focus rfl); (focus rfl); (focus exact wt); (focus (decide +kernel)); (focus exact hsq); (focus rfl); (focus (first | exact qg3 | exact qs3))) | (apply drnK_done; (focus (decide +kernel))) | (apply drnK_skip; (focus rfl)) | (apply drnK_wrap; (focus rfl))))
      rw [hh]
      (refine drnK_at 7 ?_; refine drnK_take _ rfl rfl wt (by decide +kernel) hsq rfl (q_index_own rfl rfl rfl pka rfl (by omega)) ?_)
      (repeat' (first | (apply drnK_take 2; (focus rfl); (focus rfl); (focus exact wt); (focus (decide +kernel)); (focus exact hsq); (focus rfl); (focus (first | exact qg2 | exact qs2))) | (apply drnK_skip; (focus rfl))))
      (refine drnK_at 9 ?_; (first | refine drnK_ones _ (by rfl) (by rfl) (by kernel_rfl) wt (by rfl) (by exact (opr_callv_ls (first := []) (cap := [bptr kb 0]) rfl rfl rfl CM rfl (Lp.view (KB_x kb) Lp.nil (view_kb pka)))) ?_ | refine drnK_onen _ (by rfl) (by rfl) (by kernel_rfl) wt (by exact (opr_callv_ls (first := []) (cap := [bptr kb 0]) rfl rfl rfl CM rfl (Lp.view (KB_x kb) Lp.nil (view_kb pka)))) ?_); rintro _ _ ⟨rfl, rfl⟩; refine ⟨(by first | exact fun h => absurd h (by decide) | exact fun _ => hsq), ?_⟩; (try dsimp only [List.cons_append, List.nil_append]))
      (repeat' (first | (apply run_qg 1; (focus rfl); (focus exact wt); (focus rfl); (focus (exact qg1))) | refine cod_region ?_ | refine run_nil ?_ | refine pst_then ?_ | (apply cod_cond_f; (focus rfl)) | refine pst_block ?_ | (apply drnK_take 4; (focus rfl); (focus rfl); (focus exact wt); (focus (decide +kernel)); (focus exact hsq); (focus rfl); (focus (first | exact qg4 | exact qs4))) | (apply drnK_end; (focus (decide +kernel)))))
      rw [← hZ]
      refine pst_again ((u, w)) ?_ (FSub.of (by (try dsimp only); exact fsa)) (by (try dsimp only); exact hsa) ?_
      · refine ⟨⟨by dsimp only; omega, by dsimp only; omega⟩, hu, fun t z hz ht => ?_⟩
        have := srt_le hs (by dsimp only at ht; omega : w ≤ t) hy hz
        omega
      · dsimp only; omega
    · have hsub : ¬ x.1 - y.1 < 0 := by omega
      (repeat' (first | (apply run_qg 1; (focus rfl); (focus exact wt); (focus rfl); (focus (exact qg1))) | (apply run_qg 4; (focus rfl); (focus exact wt); (focus rfl); (focus (first | exact qg4 | exact qs4))) | (apply run_qg 11; (focus rfl); (focus exact wt); (focus rfl); (focus (exact qs11))) | refine cod_seq ?_ | refine cod_region ?_ | refine run_nil ?_ | refine pst_then ?_ | (apply cod_cond_t; (focus rfl)) | refine cod_block ?_ | refine cod_skip ?_ | (apply cod_drawn_k; (focus kernel_rfl); (focus (simp only [List.length_cons, List.length_nil, Nat.reduceAdd]; rfl))) | (apply drnK_take 1; (focus rfl); (focus rfl); (focus exact wt); (focus (decide +kernel)); (focus exact hsq); (focus rfl); (focus (exact qg1))) | (apply drnK_take 2; (focus rfl); (focus rfl); (focus exact wt); (focus (decide +kernel)); (focus exact hsq); (focus rfl); (focus (first | exact qg2 | exact qs2))) | (apply drnK_take 3; (focus rfl); (focus rfl); (focus exact wt); (focus (decide +kernel)); (focus exact hsq); (focus rfl); (focus (first | exact qg3 | exact qs3))) | (apply drnK_done; (focus (decide +kernel))) | (apply drnK_skip; (focus rfl)) | (apply drnK_wrap; (focus rfl))))
      rw [hh]
      (refine drnK_at 7 ?_; refine drnK_take _ rfl rfl wt (by decide +kernel) hsq rfl (q_index_own rfl rfl rfl pka rfl (by omega)) ?_)
      (repeat' (first | (apply drnK_take 2; (focus rfl); (focus rfl); (focus exact wt); (focus (decide +kernel)); (focus exact hsq); (focus rfl); (focus (first | exact qg2 | exact qs2))) | (apply drnK_skip; (focus rfl))))
      (refine drnK_at 9 ?_; (first | refine drnK_ones _ (by rfl) (by rfl) (by kernel_rfl) wt (by rfl) (by exact (opr_callv_ls (first := []) (cap := [bptr kb 0]) rfl rfl rfl CM rfl (Lp.view (KB_x kb) Lp.nil (view_kb pka)))) ?_ | refine drnK_onen _ (by rfl) (by rfl) (by kernel_rfl) wt (by exact (opr_callv_ls (first := []) (cap := [bptr kb 0]) rfl rfl rfl CM rfl (Lp.view (KB_x kb) Lp.nil (view_kb pka)))) ?_); rintro _ _ ⟨rfl, rfl⟩; refine ⟨(by first | exact fun h => absurd h (by decide) | exact fun _ => hsq), ?_⟩; (try dsimp only [List.cons_append, List.nil_append]))
      (repeat' (first | (apply run_qg 1; (focus rfl); (focus exact wt); (focus rfl); (focus (exact qg1))) | (apply run_qg 4; (focus rfl); (focus exact wt); (focus rfl); (focus (first | exact qg4 | exact qs4))) | refine cod_region ?_ | refine run_nil ?_ | refine pst_then ?_ | (apply cod_cond_t; (focus rfl)) | refine pst_block ?_ | (apply drnK_take 4; (focus rfl); (focus rfl); (focus exact wt); (focus (decide +kernel)); (focus exact hsq); (focus rfl); (focus (first | exact qg4 | exact qs4))) | (apply drnK_end; (focus (decide +kernel)))))
      rw [← hZ]
      refine pst_again ((w + 1, v)) ?_ (FSub.of (by (try dsimp only); exact fsa)) (by (try dsimp only); exact hsa) ?_
      · refine ⟨⟨by dsimp only; omega, hvl⟩, fun t z hz ht => ?_, hv⟩
        have := srt_le hs (by dsimp only at ht; omega : t ≤ w) hz hy
        omega
      · dsimp only; omega
  · have huv2 : v = u := by omega
    subst huv2
    have hfin : P ++ sortW (A ++ [x]) ++ S = mv P A S x v := by
      have h1 := put_right (a := A.take v) (b := A.drop v) (x := x) (by rw [List.take_append_drop]; exact hs) (fun z hz => by
        obtain ⟨i, hi, h2⟩ := mem_take hz
        exact hu i z h2 hi) (fun z hz => by
        obtain ⟨i, hi, h2⟩ := mem_drop hz
        exact hv i z h2 hi)
      rw [List.take_append_drop] at h1
      rw [← h1]
      simp [mv]
    rw [hfin]
    have hstep := fun (t : Nat) (b : CV) => mv_swap P A S x (t := t) (a := a) (b := b) ha
    clear hu hv hfin hAt hx0
    (repeat' (first | (apply run_qg 1; (focus rfl); (focus exact wt); (focus rfl); (focus (exact qg1))) | (apply run_qg 4; (focus rfl); (focus exact wt); (focus rfl); (focus (first | exact qg4 | exact qs4))) | refine cod_seq ?_ | refine cod_region ?_ | refine run_nil ?_ | refine pst_then ?_ | (apply cod_cond_f; (focus rfl)) | refine cod_block ?_ | refine cod_exit ?_ | refine pst_block_here ?_ | refine pst_then_exit ?_))
    (refine cod_loop_rw (σ := Nat) (fun t => v ≤ t ∧ t ≤ A.length) (fun t => [(17, .int .i64 ((a + t : Nat) : Int))]) (fun t => [own (.slice (some ⟨g, 0, none⟩) N c) 44 2 N (flat fC (mv P A S x t))]) _ (fun t => t) (A.length) (by exact ⟨hvl, Nat.le_refl _⟩) (by exact fsa) (by (first | exact HSub.of_picks_rest (by exact pca))) (fun t ⟨ht, ht2⟩ => ?_); dsimp only [List.cons_append, List.nil_append])
    rcases Nat.lt_or_ge v t with htl | htg
    · obtain ⟨t, rfl⟩ : ∃ k, t = k + 1 := ⟨t - 1, by omega⟩
      obtain ⟨b, hb⟩ : ∃ b, A[t]? = some b := ⟨_, List.getElem?_eq_getElem (by omega)⟩
      obtain ⟨_, _, _, _, z1, z2, z3, z4⟩ := hstep t b hb
      have hJ : ((a + (t + 1) : Nat) : Int) - 1 = ((a + t : Nat) : Int) := by omega
      have hA : a + (t + 1) < N := by omega
      have hB : a + t < N := by omega
      have hlZ := hZl (t + 1)
      rw [hN] at hlZ
      generalize mv P A S x (t + 1) = Z at *
      (repeat' (first | (apply run_qg 1; (focus rfl); (focus exact wt); (focus rfl); (focus (exact qg1))) | (apply run_qg 4; (focus rfl); (focus exact wt); (focus rfl); (focus (first | exact qg4 | exact qs4))) | refine cod_seq ?_ | refine cod_region ?_ | refine run_nil ?_ | refine pst_then ?_ | (apply cod_cond_t; (focus rfl)) | refine cod_block ?_ | refine cod_skip ?_))
      refine cod_pre (by kernel_rfl) (by simp only [List.length_cons, List.length_nil, Nat.reduceAdd]; rfl) ?_
      refine pre_take 0 rfl wt (by decide +kernel) rfl (q_move rfl rfl) ?_
      refine pre_take 1 rfl wt (by decide +kernel) rfl (q_move rfl rfl) ?_
      refine pre_take 2 rfl wt (by decide +kernel) rfl (q_move rfl rfl) ?_
      refine pre_take 3 rfl wt (by decide +kernel) rfl (q_move rfl rfl) ?_
      refine pre_take 4 rfl wt (by decide +kernel) rfl (q_sub rfl rfl rfl (by omega)) ?_
      refine pre_take 5 rfl wt (by decide +kernel) rfl (q_move rfl rfl) ?_
      refine pre_take 6 rfl wt (by decide +kernel) rfl (q_move rfl rfl) ?_
      refine pre_take 7 rfl wt (by decide +kernel) rfl (q_sub rfl rfl rfl (by omega)) ?_
      rw [hJ]
      refine pre_take 8 rfl wt (by decide +kernel) rfl (q_index_at (i := a + t) rfl rfl rfl hB) ?_
      refine pre_take 10 rfl wt (by decide +kernel) rfl (q_move rfl rfl) ?_
      refine pre_take 11 rfl wt (by decide +kernel) rfl (q_move rfl rfl) ?_
      refine pre_take 12 rfl wt (by decide +kernel) rfl (q_index_at (i := a + (t + 1)) rfl rfl rfl hA) ?_
      refine pre_drn (Hq := [own (.slice (some ⟨g, 0, none⟩) N c) 44 2 N (flat fC Z)]) (nk := [15, 16, 17]) (r := 1) (i := 0) ?_
      (repeat' (first | (apply drnK_take 2; (focus rfl); (focus rfl); (focus exact wt); (focus (decide +kernel)); (focus exact hsq); (focus rfl); (focus (first | exact qg2 | exact qs2))) | (apply drnK_take 3; (focus rfl); (focus rfl); (focus exact wt); (focus (decide +kernel)); (focus exact hsq); (focus rfl); (focus (first | exact qg3 | exact qs3))) | (apply drnK_done; (focus (decide +kernel))) | (apply drnK_skip; (focus rfl)) | (apply drnK_wrap; (focus rfl))))
      (refine drnK_at 15 ?_; (first | refine drnK_ones _ (by rfl) (by rfl) (by kernel_rfl) wt (by rfl) (by exact (opr_store_ownm (f := fC) (q' := b) rfl rfl rfl rfl (by exact pka) rfl (by omega) (by intro _; rfl) (by assumption) rfl rfl (by rfl))) ?_ | refine drnK_onen _ (by rfl) (by rfl) (by kernel_rfl) wt (by exact (opr_store_ownm (f := fC) (q' := b) rfl rfl rfl rfl (by exact pka) rfl (by omega) (by intro _; rfl) (by assumption) rfl rfl (by rfl))) ?_); rintro _ _ ⟨rfl, rfl⟩; refine ⟨(by first | exact fun h => absurd h (by decide) | exact fun _ => hsq), ?_⟩; (try dsimp only [List.cons_append, List.nil_append]))
      (refine drnK_at 16 ?_; (first | refine drnK_ones _ (by rfl) (by rfl) (by kernel_rfl) wt (by rfl) (by exact (opr_of_qt (q_index_own (i := a + t) rfl rfl rfl pka (by omega) (by omega)))) ?_ | refine drnK_onen _ (by rfl) (by rfl) (by kernel_rfl) wt (by exact (opr_of_qt (q_index_own (i := a + t) rfl rfl rfl pka (by omega) (by omega)))) ?_); rintro _ _ ⟨rfl, rfl⟩; refine ⟨(by first | exact fun h => absurd h (by decide) | exact fun _ => hsq), ?_⟩; (try dsimp only [List.cons_append, List.nil_append]))
      (refine drnK_at 17 ?_; (first | refine drnK_ones _ (by rfl) (by rfl) (by kernel_rfl) wt (by rfl) (by exact (opr_store_ownm (f := fC) (q' := x) rfl rfl rfl rfl (by exact pka) rfl (by omega) (by intro _; rfl) (by assumption) rfl rfl (by rfl))) ?_ | refine drnK_onen _ (by rfl) (by rfl) (by kernel_rfl) wt (by exact (opr_store_ownm (f := fC) (q' := x) rfl rfl rfl rfl (by exact pka) rfl (by omega) (by intro _; rfl) (by assumption) rfl rfl (by rfl))) ?_); rintro _ _ ⟨rfl, rfl⟩; refine ⟨(by first | exact fun h => absurd h (by decide) | exact fun _ => hsq), ?_⟩; (try dsimp only [List.cons_append, List.nil_append]))
      rw [z4]
      (repeat' (first | (apply run_qg 1; (focus rfl); (focus exact wt); (focus rfl); (focus (exact qg1))) | (apply run_qg 4; (focus rfl); (focus exact wt); (focus rfl); (focus (first | exact qg4 | exact qs4))) | refine cod_region ?_ | refine run_nil ?_ | refine pst_then ?_ | refine pst_block ?_ | (apply drnK_end; (focus (decide +kernel)))))
      rw [hJ]
      refine pst_again (t) ?_ (FSub.of (by (try dsimp only); exact fsa)) (by (try dsimp only); exact hsa) ?_
      · exact ⟨by omega, by omega⟩
      · omega
    · have : t = v := by omega
      subst this
      (repeat' (first | (apply run_qg 1; (focus rfl); (focus exact wt); (focus rfl); (focus (exact qg1))) | (apply run_qg 4; (focus rfl); (focus exact wt); (focus rfl); (focus (first | exact qg4 | exact qs4))) | refine cod_seq ?_ | refine cod_region ?_ | refine run_nil ?_ | refine pst_then ?_ | (apply cod_cond_f; (focus rfl)) | refine cod_exit ?_ | refine cod_ret ?_ | refine pst_block_here ?_ | refine pst_then_exit ?_ | refine pst_then_ret ?_))
      exact pst_fin rfl (by exact resa) _ (⟨rfl, rfl⟩) (by exact hsa)
end Go.Proofs.Ytppnaofebkpbkaa.hsort
/-
  huff: slices.symMergeCmpFunc of coins, two parts of two coins at least: the walk (printed by gen_huffsort.py).
-/
namespace Go.Proofs.Ytppnaofebkpbkaa.hsort
open Go.RowKit kit sl Go.Proofs.Ytppnaofebkpbkaa.srt
set_option linter.unusedVariables false
theorem srt_take {l : List CV} (h : Srt l) (k : Nat) : Srt (l.take k) := h.sublist (List.take_sublist k l)
theorem srt_drop {l : List CV} (h : Srt l) (k : Nat) : Srt (l.drop k) := h.sublist (List.drop_sublist k l)
/-- where the two parts are cut -/
theorem cut_low {A B : List CV} {D s : Nat} (hA : Srt A) (hB : Srt B) (hD : (A.length + B.length) / 2 = D) (h1 : D - B.length ≤ s) (h2 : s ≤ A.length) (hs : s ≤ D)
    (f1 : s = D - B.length ∨ ∀ x y, A[s - 1]? = some x → B[D - s]? = some y → x.1 ≤ y.1) : ∀ x ∈ A.take s, ∀ y ∈ B.drop (D - s), kf x ≤ kf y := fun x hx y hy => by
  obtain ⟨i, hi, hxi⟩ := mem_take hx
  obtain ⟨j, hj, hyj⟩ := mem_drop hy
  have hjl := (List.getElem?_eq_some_iff.1 hyj).1
  rcases f1 with e | f
  · omega
  · obtain ⟨x', hx'⟩ : ∃ z, A[s - 1]? = some z := ⟨_, List.getElem?_eq_getElem (by omega)⟩
    obtain ⟨y', hy'⟩ : ∃ z, B[D - s]? = some z := ⟨_, List.getElem?_eq_getElem (by omega)⟩
    have g1 := srt_le hA (by omega : i ≤ s - 1) hxi hx'
    have g2 := srt_le hB hj hy' hyj
    have g3 := f x' y' hx' hy'
    show x.1 ≤ y.1
    omega
theorem cut_high {A B : List CV} {D s : Nat} (hA : Srt A) (hB : Srt B) (h2 : s ≤ A.length) (hs : s ≤ D) (hBD : D - s ≤ B.length)
    (f2 : s = min D A.length ∨ ∀ x y, A[s]? = some x → B[D - 1 - s]? = some y → y.1 < x.1) : ∀ x ∈ B.take (D - s), ∀ y ∈ A.drop s, kf x < kf y := fun x hx y hy => by
  obtain ⟨i, hi, hxi⟩ := mem_take hx
  obtain ⟨j, hj, hyj⟩ := mem_drop hy
  have hjl := (List.getElem?_eq_some_iff.1 hyj).1
  have hil := (List.getElem?_eq_some_iff.1 hxi).1
  rcases f2 with e | f
  · omega
  · obtain ⟨x', hx'⟩ : ∃ z, A[s]? = some z := ⟨_, List.getElem?_eq_getElem (by omega)⟩
    obtain ⟨y', hy'⟩ : ∃ z, B[D - 1 - s]? = some z := ⟨_, List.getElem?_eq_getElem (by omega)⟩
    have g1 := srt_le hB (by omega : i ≤ D - 1 - s) hxi hy'
    have g2 := srt_le hA hj hx' hyj
    have g3 := f x' y' hx' hy'
    show x.1 < y.1
    omega
def SymOk (sz : Nat) : Prop := ∀ (q : Option Addr) (c kb : Nat) (P A B S : List CV) (a m e N : Nat), P.length = a → a + A.length = m → m + B.length = e → 0 < A.length → 0 < B.length → A.length + B.length ≤ sz → (P ++ A ++ B ++ S).length = N → N ≤ 1000000000 → (∀ x ∈ A ++ B, 0 ≤ x.1 ∧ x.1 ≤ 1000000000000) → Srt A → Srt B →
    Ct Try.prog 56 [.slice q N c, .int .i64 (a : Int), .int .i64 (m : Int), .int .i64 (e : Int), cmpV kb] [own (.slice q N c) 44 2 N (flat fC (P ++ A ++ B ++ S)), KB kb]
      fun v H' => v = .tuple #[] ∧ H' = [own (.slice q N c) 44 2 N (flat fC (P ++ sortW (A ++ B) ++ S))]
attribute [local irreducible] box own sl old bptr eptr Qt Opr Run Cod Pst Drn
set_option maxRecDepth 100000 in
set_option maxHeartbeats 8000000 in
theorem sym_g1 (sz : Nat) (ih : SymOk sz) (q : Option Addr) (c kb : Nat) (P A B S : List CV) (a N D : Nat) (ha : P.length = a) (hA2 : 2 ≤ A.length) (hB2 : 2 ≤ B.length) (hsz : A.length + B.length ≤ sz + 1) (hN : (P ++ A ++ B ++ S).length = N) (hNb : N ≤ 1000000000) (hw : ∀ x ∈ A ++ B, 0 ≤ x.1 ∧ x.1 ≤ 1000000000000) (hA : Srt A) (hB : Srt B) (hD : (A.length + B.length) / 2 = D) (hside : D < A.length) :
    Ct Try.prog 56 [.slice q N c, .int .i64 (a : Int), .int .i64 ((a + A.length : Nat) : Int), .int .i64 ((a + A.length + B.length : Nat) : Int), cmpV kb] [own (.slice q N c) 44 2 N (flat fC (P ++ A ++ B ++ S)), KB kb]
      fun v H' => v = .tuple #[] ∧ H' = [own (.slice q N c) 44 2 N (flat fC (P ++ sortW (A ++ B) ++ S))] := by
  have hlen : P.length + A.length + B.length + S.length = N := by rw [← hN]; simp only [List.length_append]
  have hmid : ((a : Int) + ((a + A.length + B.length : Nat) : Int)) / 2 = ((a + D : Nat) : Int) := by omega
  unfold cmpV
  have hst : ((a + D : Nat) : Int) + ((a + A.length : Nat) : Int) - ((a + A.length + B.length : Nat) : Int) = ((a + (D - B.length) : Nat) : Int) := by omega
  (refine spec_enter Try.func56 Try.ntmps56 rfl rfl fun Fr => ?_; dsimp only [List.cons_append, List.nil_append, ini, Nat.reduceAdd])
  refine cod_shapeN pka (by omega) ?_
  rintro g rfl hc
  (repeat' (first | (apply run_qg 1; (focus rfl); (focus exact wt); (focus rfl); (focus (exact qg1))) | (apply run_qg 4; (focus rfl); (focus exact wt); (focus rfl); (focus (first | exact qg4 | exact qs4))) | (apply run_qg 11; (focus rfl); (focus exact wt); (focus rfl); (focus (exact qs11))) | refine cod_seq ?_ | refine cod_region ?_ | refine run_nil ?_ | refine pst_then ?_ | (apply cod_cond_t; (focus rfl)) | (apply cod_cond_f; (focus rfl)) | refine cod_block ?_ | refine cod_skip ?_))
  rw [hmid, hst]
  (refine cod_loop_rw (σ := Nat × Nat) (fun y => ((a + (D - B.length) ≤ y.1 ∧ y.1 ≤ y.2) ∧ y.2 ≤ a + min D A.length) ∧ (y.1 = a + (D - B.length) ∨ ∀ x z, A[y.1 - a - 1]? = some x → B[D - (y.1 - a)]? = some z → x.1 ≤ z.1) ∧ (y.2 = a + min D A.length ∨ ∀ x z, A[y.2 - a]? = some x → B[D - 1 - (y.2 - a)]? = some z → z.1 < x.1)) (fun y => [(20, .int .i64 (y.1 : Int)), (21, .int .i64 (y.2 : Int))]) (fun y => [own (.slice (some ⟨g, 0, none⟩) N c) 44 2 N (flat fC (P ++ A ++ B ++ S))]) _ (fun y => y.2 - y.1) ((a + (D - B.length), a + D)) (by exact ⟨⟨⟨by first | omega | (dsimp only; omega) | dsimp only, by first | omega | (dsimp only; omega) | dsimp only⟩, by first | omega | (dsimp only; omega) | dsimp only⟩, .inl (by first | omega | (dsimp only; omega) | dsimp only), .inl (by first | omega | (dsimp only; omega) | dsimp only)⟩) (by exact fsa) (by (first | exact HSub.of_picks_rest (by exact pca))) (fun ⟨s, r⟩ ⟨⟨⟨hs1, hs2⟩, hr⟩, f1, f2⟩ => ?_); dsimp only [List.cons_append, List.nil_append])
  dsimp only at hs1 hs2 hr f1 f2
  rcases Nat.lt_or_ge s r with hlt | hge
  · obtain ⟨w, hw2⟩ : ∃ w, (s + r) / 2 = a + w := ⟨(s + r) / 2 - a, by omega⟩
    have hwu : s ≤ a + w ∧ a + w < r := by omega
    obtain ⟨x, hx⟩ : ∃ x, A[w]? = some x := ⟨_, List.getElem?_eq_getElem (by omega)⟩
    obtain ⟨y, hy⟩ : ∃ y, B[D - 1 - w]? = some y := ⟨_, List.getElem?_eq_getElem (by omega)⟩
    have hxl := at_a (P := P) (A := A) (B := B) (S := S) ha hx
    have hyl := at_b (P := P) (A := A) (B := B) (S := S) (m := a + A.length) (by rw [ha]) hy
    have hh : ((s : Int) + (r : Int)) / 2 = ((a + w : Nat) : Int) := by omega
    have hpc : ((a + D : Nat) : Int) + ((a + A.length : Nat) : Int) - 1 - ((a + w : Nat) : Int) = ((a + A.length + (D - 1 - w) : Nat) : Int) := by omega
    have hwx := hw x (List.mem_append_left _ (List.mem_of_getElem? hx))
    have hwy := hw y (List.mem_append_right _ (List.mem_of_getElem? hy))
    have CM := cmp_any kb y x hwy hwx
    have hi1 : a + w < N := by omega
    have hi2 : a + A.length + (D - 1 - w) < N := by omega
    generalize hZ : P ++ A ++ B ++ S = Z at *
    by_cases hyx : y.1 < x.1
    · have hsub : y.1 - x.1 < 0 := by omega
      (repeat' (first | (apply run_qg 1; (focus rfl); (focus exact wt); (focus rfl); (focus (exact qg1))) | (apply run_qg 4; (focus rfl); (focus exact wt); (focus rfl); (focus (first | exact qg4 | exact qs4))) | (apply run_qg 11; (focus rfl); (focus exact wt); (focus rfl); (focus (exact qs11))) | refine cod_seq ?_ | refine cod_region ?_ | refine run_nil ?_ | refine pst_then ?_ | (apply cod_cond_t; (focus rfl)) | refine cod_block ?_ | refine cod_skip ?_ | (apply cod_drawn_k; (focus kernel_rfl); (focus (simp only [List.length_cons, List.length_nil, Nat.reduceAdd]; rfl))) | (apply drnK_take 1; (focus rfl); (focus rfl); (focus exact wt); (focus (decide +kernel)); (focus exact hsq); (focus rfl); (focus (exact qg1))) | (apply drnK_take 4; (focus rfl); (focus rfl); (focus exact wt); (focus (decide +kernel)); (focus exact hsq); (focus rfl); (focus (first | exact qg4 | exact qs4))) | (apply drnK_done; (focus (decide +kernel))) | (apply drnK_skip; (focus rfl)) | (apply drnK_wrap; (focus rfl))))
      rw [hh]
      skip
      rw [hpc]
      (refine drnK_at 5 ?_; refine drnK_take _ rfl rfl wt (by decide +kernel) hsq rfl (q_index_own rfl rfl rfl pka rfl (by omega)) ?_)
      (repeat' (first | (apply drnK_take 2; (focus rfl); (focus rfl); (focus exact wt); (focus (decide +kernel)); (focus exact hsq); (focus rfl); (focus (first | exact qg2 | exact qs2))) | (apply drnK_take 3; (focus rfl); (focus rfl); (focus exact wt); (focus (decide +kernel)); (focus exact hsq); (focus rfl); (focus (first | exact qg3 | exact qs3))) | (apply drnK_done; (focus (decide +kernel))) | (apply drnK_skip; (focus rfl))))
      (refine drnK_at 11 ?_; (first | refine drnK_ones _ (by rfl) (by rfl) (by kernel_rfl) wt (by rfl) (by exact (opr_callv_ls (first := []) (cap := [bptr kb 0]) rfl rfl rfl CM rfl (Lp.view (KB_x kb) Lp.nil (view_kb pka)))) ?_ | refine drnK_onen _ (by rfl) (by rfl) (by kernel_rfl) wt (by exact (opr_callv_ls (first := []) (cap := [bptr kb 0]) rfl rfl rfl CM rfl (Lp.view (KB_x kb) Lp.nil (view_kb pka)))) ?_); rintro _ _ ⟨rfl, rfl⟩; refine ⟨(by first | exact fun h => absurd h (by decide) | exact fun _ => hsq), ?_⟩; (try dsimp only [List.cons_append, List.nil_append]))
      (repeat' (first | (apply run_qg 1; (focus rfl); (focus exact wt); (focus rfl); (focus (exact qg1))) | refine cod_region ?_ | refine run_nil ?_ | refine pst_then ?_ | (apply cod_cond_f; (focus rfl)) | refine pst_block ?_ | (apply drnK_take 4; (focus rfl); (focus rfl); (focus exact wt); (focus (decide +kernel)); (focus exact hsq); (focus rfl); (focus (first | exact qg4 | exact qs4))) | (apply drnK_end; (focus (decide +kernel)))))
      rw [← hZ]
      refine pst_again ((s, a + w)) ?_ (FSub.of (by (try dsimp only); exact fsa)) (by (try dsimp only); exact hsa) ?_
      · refine ⟨⟨⟨hs1, by dsimp only; omega⟩, by dsimp only; omega⟩, f1, .inr fun x' z' h1 h2 => ?_⟩
        dsimp only at h1 h2
        rw [Nat.add_sub_cancel_left] at h1 h2
        rw [hx] at h1
        rw [hy] at h2
        cases h1
        cases h2
        exact hyx
      · dsimp only; omega
    · have hsub : ¬ y.1 - x.1 < 0 := by omega
      (repeat' (first | (apply run_qg 1; (focus rfl); (focus exact wt); (focus rfl); (focus (exact qg1))) | (apply run_qg 4; (focus rfl); (focus exact wt); (focus rfl); (focus (first | exact qg4 | exact qs4))) | (apply run_qg 11; (focus rfl); (focus exact wt); (focus rfl); (focus (exact qs11))) | refine cod_seq ?_ | refine cod_region ?_ | refine run_nil ?_ | refine pst_then ?_ | (apply cod_cond_t; (focus rfl)) | refine cod_block ?_ | refine cod_skip ?_ | (apply cod_drawn_k; (focus kernel_rfl); (focus (simp only [List.length_cons, List.length_nil, Nat.reduceAdd]; rfl))) | (apply drnK_take 1; (focus rfl); (focus rfl); (focus exact wt); (focus (decide +kernel)); (focus exact hsq); (focus rfl); (focus (exact qg1))) | (apply drnK_take 4; (focus rfl); (focus rfl); (focus exact wt); (focus (decide +kernel)); (focus exact hsq); (focus rfl); (focus (first | exact qg4 | exact qs4))) | (apply drnK_done; (focus (decide +kernel))) | (apply drnK_skip; (focus rfl)) | (apply drnK_wrap; (focus rfl))))
      rw [hh]
      skip
      rw [hpc]
      (refine drnK_at 5 ?_; refine drnK_take _ rfl rfl wt (by decide +kernel) hsq rfl (q_index_own rfl rfl rfl pka rfl (by omega)) ?_)
      (repeat' (first | (apply drnK_take 2; (focus rfl); (focus rfl); (focus exact wt); (focus (decide +kernel)); (focus exact hsq); (focus rfl); (focus (first | exact qg2 | exact qs2))) | (apply drnK_take 3; (focus rfl); (focus rfl); (focus exact wt); (focus (decide +kernel)); (focus exact hsq); (focus rfl); (focus (first | exact qg3 | exact qs3))) | (apply drnK_done; (focus (decide +kernel))) | (apply drnK_skip; (focus rfl))))
      (refine drnK_at 11 ?_; (first | refine drnK_ones _ (by rfl) (by rfl) (by kernel_rfl) wt (by rfl) (by exact (opr_callv_ls (first := []) (cap := [bptr kb 0]) rfl rfl rfl CM rfl (Lp.view (KB_x kb) Lp.nil (view_kb pka)))) ?_ | refine drnK_onen _ (by rfl) (by rfl) (by kernel_rfl) wt (by exact (opr_callv_ls (first := []) (cap := [bptr kb 0]) rfl rfl rfl CM rfl (Lp.view (KB_x kb) Lp.nil (view_kb pka)))) ?_); rintro _ _ ⟨rfl, rfl⟩; refine ⟨(by first | exact fun h => absurd h (by decide) | exact fun _ => hsq), ?_⟩; (try dsimp only [List.cons_append, List.nil_append]))
      (repeat' (first | (apply run_qg 1; (focus rfl); (focus exact wt); (focus rfl); (focus (exact qg1))) | (apply run_qg 4; (focus rfl); (focus exact wt); (focus rfl); (focus (first | exact qg4 | exact qs4))) | refine cod_region ?_ | refine run_nil ?_ | refine pst_then ?_ | (apply cod_cond_t; (focus rfl)) | refine pst_block ?_ | (apply drnK_take 4; (focus rfl); (focus rfl); (focus exact wt); (focus (decide +kernel)); (focus exact hsq); (focus rfl); (focus (first | exact qg4 | exact qs4))) | (apply drnK_end; (focus (decide +kernel)))))
      rw [← hZ, show ((a + w : Nat) : Int) + 1 = ((a + w + 1 : Nat) : Int) by omega]
      refine pst_again ((a + w + 1, r)) ?_ (FSub.of (by (try dsimp only); exact fsa)) (by (try dsimp only); exact hsa) ?_
      · refine ⟨⟨⟨by dsimp only; omega, by dsimp only; omega⟩, hr⟩, .inr fun x' z' h1 h2 => ?_, f2⟩
        dsimp only at h1 h2
        rw [show a + w + 1 - a - 1 = w by omega, hx] at h1
        rw [show D - (a + w + 1 - a) = D - 1 - w by omega, hy] at h2
        cases h1
        cases h2
        omega
      · dsimp only; omega
  · obtain ⟨s, rfl⟩ : ∃ k, s = a + k := ⟨s - a, by omega⟩
    have hrs : r = a + s := by omega
    subst hrs
    rw [Nat.add_sub_cancel_left] at f1 f2
    have hsA : s ≤ A.length := by omega
    have hsD : s ≤ D := by omega
    have hlow := cut_low hA hB hD (by omega) hsA hsD (by rcases f1 with h | h; exact .inl (by omega); exact .inr h)
    have hhigh := cut_high hA hB hsA hsD (by omega) (by rcases f2 with h | h; exact .inl (by omega); exact .inr h)
    obtain ⟨f, rfl⟩ : ∃ f, D = s + f := ⟨D - s, by omega⟩
    rw [Nat.add_sub_cancel_left] at hlow hhigh
    have hfB : f ≤ B.length := by omega
    have hDs : s + f + 1 ≤ A.length + B.length := by omega
    have hDp : 1 ≤ s + f := by omega
    clear f1 f2 hs1 hs2 hr hge hD hmid hside hsD
    (try clear hst)
    have hsum := halves (a1 := A.take s) (a2 := A.drop s) (b1 := B.take f) (b2 := B.drop f) (by rw [List.take_append_drop]; exact hA) (by rw [List.take_append_drop]; exact hB) hlow hhigh
    rw [List.take_append_drop, List.take_append_drop] at hsum
    have eA : A = A.take s ++ A.drop s := (List.take_append_drop _ _).symm
    have eB : B = B.take f ++ B.drop f := (List.take_append_drop _ _).symm
    have l1 : (A.take s).length = s := by rw [List.length_take]; omega
    have l2 : s + (A.drop s).length = A.length := by rw [List.length_drop]; omega
    have l3 : (B.take f).length = f := by rw [List.length_take]; omega
    have l4 : f + (B.drop f).length = B.length := by rw [List.length_drop]; omega
    have w1 : ∀ x ∈ A.take s ++ B.take f, 0 ≤ x.1 ∧ x.1 ≤ 1000000000000 := fun x hx => hw x (by rcases List.mem_append.1 hx with h | h; exact List.mem_append_left _ (List.mem_of_mem_take h); exact List.mem_append_right _ (List.mem_of_mem_take h))
    have w2 : ∀ x ∈ A.drop s ++ B.drop f, 0 ≤ x.1 ∧ x.1 ≤ 1000000000000 := fun x hx => hw x (by rcases List.mem_append.1 hx with h | h; exact List.mem_append_left _ (List.mem_of_mem_drop h); exact List.mem_append_right _ (List.mem_of_mem_drop h))
    have s1 := srt_take hA s
    have s2 := srt_drop hA s
    have s3 := srt_take hB f
    have s4 := srt_drop hB f
    have hfin : P ++ sortW (A ++ B) ++ S = P ++ sortW (A.take s ++ B.take f) ++ sortW (A.drop s ++ B.drop f) ++ S := by rw [← hsum]; simp
    rw [hfin]
    have hLn := sortW_len (A.take s ++ B.take f)
    rw [List.length_append, l1, l3] at hLn
    have hend : ((a + (s + f) : Nat) : Int) + ((a + A.length : Nat) : Int) - ((a + s : Nat) : Int) = ((a + A.length + f : Nat) : Int) := by omega
    have hST : P ++ A ++ B ++ S = P ++ A.take s ++ A.drop s ++ B.take f ++ (B.drop f ++ S) := by
      rw [show P ++ A.take s ++ A.drop s ++ B.take f ++ (B.drop f ++ S) = P ++ (A.take s ++ A.drop s) ++ (B.take f ++ B.drop f) ++ S by simp only [List.append_assoc], List.take_append_drop, List.take_append_drop]
    rw [hST]
    clear hlow hhigh hsum hfin hST eA eB
    generalize A.take s = A1 at *
    generalize A.drop s = A2 at *
    generalize B.take f = B1 at *
    generalize B.drop f = B2 at *
    have ROT : 0 < A2.length → 0 < B1.length → Ct Try.prog 74 _ _ _ := fun g1 g2 => rotate_any (some ⟨g, 0, none⟩) c (cmpV kb) (P ++ A1) A2 B1 (B2 ++ S) (a + s) (a + A.length) (a + A.length + f) N (by rw [List.length_append]; omega) (by omega) (by omega) g1 g2 (by simp only [List.length_append]; omega) hNb
    have LFT : 0 < A1.length → 0 < B1.length → Ct Try.prog 56 _ _ _ := fun g1 g2 => ih (some ⟨g, 0, none⟩) c kb P A1 B1 (A2 ++ B2 ++ S) a (a + s) (a + (s + f)) N ha (by omega) (by omega) g1 g2 (by omega) (by simp only [List.length_append]; omega) hNb w1 s1 s3
    have RGT : 0 < A2.length → 0 < B2.length → Ct Try.prog 56 _ _ _ := fun g1 g2 => ih (some ⟨g, 0, none⟩) c kb (P ++ sortW (A1 ++ B1)) A2 B2 S (a + (s + f)) (a + A.length + f) (a + A.length + B.length) N (by rw [List.length_append]; omega) (by omega) (by omega) g1 g2 (by omega) (by simp only [List.length_append]; omega) hNb w2 s2 s4
    unfold cmpV at ROT LFT RGT
    by_cases hc1 : (0 < A2.length ∧ 0 < B1.length)
    · (repeat' (first | (apply run_qg 1; (focus rfl); (focus exact wt); (focus rfl); (focus (exact qg1))) | (apply run_qg 4; (focus rfl); (focus exact wt); (focus rfl); (focus (first | exact qg4 | exact qs4))) | refine cod_seq ?_ | refine cod_region ?_ | refine run_nil ?_ | refine pst_then ?_ | (apply cod_cond_t; (focus rfl)) | (apply cod_cond_f; (focus rfl)) | refine cod_exit ?_ | refine pst_block_here ?_ | refine pst_then_exit ?_))
      rw [hend]
      refine run_os wt rfl (opr_call_l rfl (ROT hc1.1 hc1.2) rfl lpa) ?_
      rintro _ _ ⟨_, ⟨rfl, rfl⟩, rfl⟩
      dsimp only [List.cons_append, List.nil_append]
      rw [show P ++ A1 ++ B1 ++ A2 ++ (B2 ++ S) = P ++ A1 ++ B1 ++ (A2 ++ B2 ++ S) by simp]
      by_cases hc2 : (0 < A1.length ∧ 0 < B1.length)
      · (repeat' (first | (apply run_qg 1; (focus rfl); (focus exact wt); (focus rfl); (focus (exact qg1))) | (apply run_qg 4; (focus rfl); (focus exact wt); (focus rfl); (focus (first | exact qg4 | exact qs4))) | refine cod_seq ?_ | refine cod_region ?_ | refine run_nil ?_ | refine pst_then ?_ | (apply cod_cond_t; (focus rfl))))
        refine run_os wt rfl (opr_call_l rfl (LFT hc2.1 hc2.2) rfl (Lp.out pka (Lp.view (KB_x kb) Lp.nil (view_kb pka)))) ?_
        rintro _ _ ⟨_, ⟨rfl, rfl⟩, rfl⟩
        dsimp only [List.cons_append, List.nil_append]
        rw [show P ++ sortW (A1 ++ B1) ++ (A2 ++ B2 ++ S) = P ++ sortW (A1 ++ B1) ++ A2 ++ B2 ++ S by simp]
        by_cases hc3 : (0 < A2.length ∧ 0 < B2.length)
        · (repeat' (first | (apply run_qg 1; (focus rfl); (focus exact wt); (focus rfl); (focus (exact qg1))) | (apply run_qg 4; (focus rfl); (focus exact wt); (focus rfl); (focus (first | exact qg4 | exact qs4))) | refine cod_seq ?_ | refine cod_region ?_ | refine run_nil ?_ | refine pst_then ?_ | (apply cod_cond_t; (focus rfl))))
          (try rw [hend])
          refine run_os wt rfl (opr_call_l rfl (RGT hc3.1 hc3.2) rfl (Lp.out pka (Lp.view (KB_x kb) Lp.nil (view_kb pka)))) ?_
          rintro _ _ ⟨_, ⟨rfl, rfl⟩, rfl⟩
          dsimp only [List.cons_append, List.nil_append]
          (repeat' (first | refine run_nil ?_))
          exact pst_fin_end rfl (by exact resa) _ (⟨rfl, rfl⟩) (by exact hsa)
        · have e3 : P ++ sortW (A1 ++ B1) ++ A2 ++ B2 ++ S = P ++ sortW (A1 ++ B1) ++ sortW (A2 ++ B2) ++ S := by
            have e9 : sortW (A2 ++ B2) = A2 ++ B2 := by
              rcases Nat.eq_zero_or_pos A2.length with h | h
              · rw [List.eq_nil_of_length_eq_zero h, List.nil_append, sortW_of s4]
              · rw [List.eq_nil_of_length_eq_zero (by omega : B2.length = 0), List.append_nil, sortW_of s2]
            rw [e9]
            simp only [List.append_assoc]
          rw [e3]
          (repeat' (first | (apply run_qg 1; (focus rfl); (focus exact wt); (focus rfl); (focus (exact qg1))) | (apply run_qg 4; (focus rfl); (focus exact wt); (focus rfl); (focus (first | exact qg4 | exact qs4))) | refine cod_seq ?_ | refine cod_region ?_ | refine run_nil ?_ | refine pst_then ?_ | (apply cod_cond_f; (focus rfl)) | refine cod_skip ?_))
          exact pst_fin_end rfl (by exact resa) _ (⟨rfl, rfl⟩) (by exact hsa)
      · have e2 : P ++ A1 ++ B1 ++ (A2 ++ B2 ++ S) = P ++ sortW (A1 ++ B1) ++ A2 ++ B2 ++ S := by
          have e9 : sortW (A1 ++ B1) = A1 ++ B1 := by
            rcases Nat.eq_zero_or_pos A1.length with h | h
            · rw [List.eq_nil_of_length_eq_zero h, List.nil_append, sortW_of s3]
            · rw [List.eq_nil_of_length_eq_zero (by omega : B1.length = 0), List.append_nil, sortW_of s1]
          rw [e9]
          simp only [List.append_assoc]
        rw [e2]
        by_cases hc3 : (0 < A2.length ∧ 0 < B2.length)
        · (repeat' (first | (apply run_qg 1; (focus rfl); (focus exact wt); (focus rfl); (focus (exact qg1))) | (apply run_qg 4; (focus rfl); (focus exact wt); (focus rfl); (focus (first | exact qg4 | exact qs4))) | refine cod_seq ?_ | refine cod_region ?_ | refine run_nil ?_ | refine pst_then ?_ | (apply cod_cond_t; (focus rfl)) | (apply cod_cond_f; (focus rfl)) | refine cod_skip ?_ | (apply run_offs; (focus rfl); (focus rfl); (focus rfl))))
          (try rw [hend])
          refine run_os wt rfl (opr_call_l rfl (RGT hc3.1 hc3.2) rfl (Lp.out pka (Lp.view (KB_x kb) Lp.nil (view_kb pka)))) ?_
          rintro _ _ ⟨_, ⟨rfl, rfl⟩, rfl⟩
          dsimp only [List.cons_append, List.nil_append]
          (repeat' (first | refine run_nil ?_))
          exact pst_fin_end rfl (by exact resa) _ (⟨rfl, rfl⟩) (by exact hsa)
        · have e3 : P ++ sortW (A1 ++ B1) ++ A2 ++ B2 ++ S = P ++ sortW (A1 ++ B1) ++ sortW (A2 ++ B2) ++ S := by
            have e9 : sortW (A2 ++ B2) = A2 ++ B2 := by
              rcases Nat.eq_zero_or_pos A2.length with h | h
              · rw [List.eq_nil_of_length_eq_zero h, List.nil_append, sortW_of s4]
              · rw [List.eq_nil_of_length_eq_zero (by omega : B2.length = 0), List.append_nil, sortW_of s2]
            rw [e9]
            simp only [List.append_assoc]
          rw [e3]
          (repeat' (first | (apply run_qg 1; (focus rfl); (focus exact wt); (focus rfl); (focus (exact qg1))) | (apply run_qg 4; (focus rfl); (focus exact wt); (focus rfl); (focus (first | exact qg4 | exact qs4))) | refine cod_seq ?_ | refine cod_region ?_ | refine run_nil ?_ | refine pst_then ?_ | (apply cod_cond_f; (focus rfl)) | refine cod_skip ?_ | (apply run_offs; (focus rfl); (focus rfl); (focus rfl))))
          exact pst_fin_end rfl (by exact resa) _ (⟨rfl, rfl⟩) (by exact hsa)
    · have e1 : P ++ A1 ++ A2 ++ B1 ++ (B2 ++ S) = P ++ A1 ++ B1 ++ (A2 ++ B2 ++ S) := by
        rcases Nat.eq_zero_or_pos A2.length with h | h
        · rw [List.eq_nil_of_length_eq_zero h]; simp
        · rw [List.eq_nil_of_length_eq_zero (by omega : B1.length = 0)]; simp
      rw [e1]
      by_cases hc2 : (0 < A1.length ∧ 0 < B1.length)
      · (repeat' (first | (apply run_qg 1; (focus rfl); (focus exact wt); (focus rfl); (focus (exact qg1))) | (apply run_qg 4; (focus rfl); (focus exact wt); (focus rfl); (focus (first | exact qg4 | exact qs4))) | refine cod_seq ?_ | refine cod_region ?_ | refine run_nil ?_ | refine pst_then ?_ | (apply cod_cond_t; (focus rfl)) | (apply cod_cond_f; (focus rfl)) | refine cod_exit ?_ | refine cod_skip ?_ | refine pst_block_here ?_ | refine pst_then_exit ?_ | (apply run_offs; (focus rfl); (focus rfl); (focus rfl))))
        refine run_os wt rfl (opr_call_l rfl (LFT hc2.1 hc2.2) rfl (Lp.out pka (Lp.view (KB_x kb) Lp.nil (view_kb pka)))) ?_
        rintro _ _ ⟨_, ⟨rfl, rfl⟩, rfl⟩
        dsimp only [List.cons_append, List.nil_append]
        rw [show P ++ sortW (A1 ++ B1) ++ (A2 ++ B2 ++ S) = P ++ sortW (A1 ++ B1) ++ A2 ++ B2 ++ S by simp]
        by_cases hc3 : (0 < A2.length ∧ 0 < B2.length)
        · (repeat' (first | (apply run_qg 1; (focus rfl); (focus exact wt); (focus rfl); (focus (exact qg1))) | (apply run_qg 4; (focus rfl); (focus exact wt); (focus rfl); (focus (first | exact qg4 | exact qs4))) | refine cod_seq ?_ | refine cod_region ?_ | refine run_nil ?_ | refine pst_then ?_ | (apply cod_cond_t; (focus rfl))))
          (try rw [hend])
          refine run_os wt rfl (opr_call_l rfl (RGT hc3.1 hc3.2) rfl (Lp.out pka (Lp.view (KB_x kb) Lp.nil (view_kb pka)))) ?_
          rintro _ _ ⟨_, ⟨rfl, rfl⟩, rfl⟩
          dsimp only [List.cons_append, List.nil_append]
          (repeat' (first | refine run_nil ?_))
          exact pst_fin_end rfl (by exact resa) _ (⟨rfl, rfl⟩) (by exact hsa)
        · have e3 : P ++ sortW (A1 ++ B1) ++ A2 ++ B2 ++ S = P ++ sortW (A1 ++ B1) ++ sortW (A2 ++ B2) ++ S := by
            have e9 : sortW (A2 ++ B2) = A2 ++ B2 := by
              rcases Nat.eq_zero_or_pos A2.length with h | h
              · rw [List.eq_nil_of_length_eq_zero h, List.nil_append, sortW_of s4]
              · rw [List.eq_nil_of_length_eq_zero (by omega : B2.length = 0), List.append_nil, sortW_of s2]
            rw [e9]
            simp only [List.append_assoc]
          rw [e3]
          (repeat' (first | (apply run_qg 1; (focus rfl); (focus exact wt); (focus rfl); (focus (exact qg1))) | (apply run_qg 4; (focus rfl); (focus exact wt); (focus rfl); (focus (first | exact qg4 | exact qs4))) | refine cod_seq ?_ | refine cod_region ?_ | refine run_nil ?_ | refine pst_then ?_ | (apply cod_cond_f; (focus rfl)) | refine cod_skip ?_ | (apply run_offs; (focus rfl); (focus rfl); (focus rfl))))
          exact pst_fin_end rfl (by exact resa) _ (⟨rfl, rfl⟩) (by exact hsa)
      · have e2 : P ++ A1 ++ B1 ++ (A2 ++ B2 ++ S) = P ++ sortW (A1 ++ B1) ++ A2 ++ B2 ++ S := by
          have e9 : sortW (A1 ++ B1) = A1 ++ B1 := by
            rcases Nat.eq_zero_or_pos A1.length with h | h
            · rw [List.eq_nil_of_length_eq_zero h, List.nil_append, sortW_of s3]
            · rw [List.eq_nil_of_length_eq_zero (by omega : B1.length = 0), List.append_nil, sortW_of s1]
          rw [e9]
          simp only [List.append_assoc]
        rw [e2]
        by_cases hc3 : (0 < A2.length ∧ 0 < B2.length)
        · (repeat' (first | (apply run_qg 1; (focus rfl); (focus exact wt); (focus rfl); (focus (exact qg1))) | (apply run_qg 4; (focus rfl); (focus exact wt); (focus rfl); (focus (first | exact qg4 | exact qs4))) | refine cod_seq ?_ | refine cod_region ?_ | refine run_nil ?_ | refine pst_then ?_ | (apply cod_cond_t; (focus rfl)) | (apply cod_cond_f; (focus rfl)) | refine cod_exit ?_ | refine cod_skip ?_ | refine pst_block_here ?_ | refine pst_then_exit ?_))
          (try rw [hend])
          refine run_os wt rfl (opr_call_l rfl (RGT hc3.1 hc3.2) rfl (Lp.out pka (Lp.view (KB_x kb) Lp.nil (view_kb pka)))) ?_
          rintro _ _ ⟨_, ⟨rfl, rfl⟩, rfl⟩
          dsimp only [List.cons_append, List.nil_append]
          (repeat' (first | refine run_nil ?_))
          exact pst_fin_end rfl (by exact resa) _ (⟨rfl, rfl⟩) (by exact hsa)
        · have e3 : P ++ sortW (A1 ++ B1) ++ A2 ++ B2 ++ S = P ++ sortW (A1 ++ B1) ++ sortW (A2 ++ B2) ++ S := by
            have e9 : sortW (A2 ++ B2) = A2 ++ B2 := by
              rcases Nat.eq_zero_or_pos A2.length with h | h
              · rw [List.eq_nil_of_length_eq_zero h, List.nil_append, sortW_of s4]
              · rw [List.eq_nil_of_length_eq_zero (by omega : B2.length = 0), List.append_nil, sortW_of s2]
            rw [e9]
            simp only [List.append_assoc]
          rw [e3]
          (repeat' (first | (apply run_qg 1; (focus rfl); (focus exact wt); (focus rfl); (focus (exact qg1))) | (apply run_qg 4; (focus rfl); (focus exact wt); (focus rfl); (focus (first | exact qg4 | exact qs4))) | refine cod_seq ?_ | refine cod_region ?_ | refine run_nil ?_ | refine pst_then ?_ | (apply cod_cond_f; (focus rfl)) | refine cod_exit ?_ | refine cod_skip ?_ | refine pst_block_here ?_ | refine pst_then_exit ?_ | (apply run_offs; (focus rfl); (focus rfl); (focus rfl))))
          exact pst_fin_end rfl (by exact resa) _ (⟨rfl, rfl⟩) (by exact hsa)
end Go.Proofs.Ytppnaofebkpbkaa.hsort
/-
  huff: slices.symMergeCmpFunc of coins: the walk (printed by gen_huffsort.py).
-/
namespace Go.Proofs.Ytppnaofebkpbkaa.hsort
open Go.RowKit kit sl Go.Proofs.Ytppnaofebkpbkaa.srt
set_option linter.unusedVariables false
attribute [local irreducible] box own sl old bptr eptr Qt Opr Run Cod Pst Drn
set_option maxRecDepth 100000 in
set_option maxHeartbeats 8000000 in
theorem sym_g2 (sz : Nat) (ih : SymOk sz) (q : Option Addr) (c kb : Nat) (P A B S : List CV) (a N D : Nat) (ha : P.length = a) (hA2 : 2 ≤ A.length) (hB2 : 2 ≤ B.length) (hsz : A.length + B.length ≤ sz + 1) (hN : (P ++ A ++ B ++ S).length = N) (hNb : N ≤ 1000000000) (hw : ∀ x ∈ A ++ B, 0 ≤ x.1 ∧ x.1 ≤ 1000000000000) (hA : Srt A) (hB : Srt B) (hD : (A.length + B.length) / 2 = D) (hside : A.length ≤ D) :
    Ct Try.prog 56 [.slice q N c, .int .i64 (a : Int), .int .i64 ((a + A.length : Nat) : Int), .int .i64 ((a + A.length + B.length : Nat) : Int), cmpV kb] [own (.slice q N c) 44 2 N (flat fC (P ++ A ++ B ++ S)), KB kb]
      fun v H' => v = .tuple #[] ∧ H' = [own (.slice q N c) 44 2 N (flat fC (P ++ sortW (A ++ B) ++ S))] := by
  have hlen : P.length + A.length + B.length + S.length = N := by rw [← hN]; simp only [List.length_append]
  have hmid : ((a : Int) + ((a + A.length + B.length : Nat) : Int)) / 2 = ((a + D : Nat) : Int) := by omega
  unfold cmpV
  (refine spec_enter Try.func56 Try.ntmps56 rfl rfl fun Fr => ?_; dsimp only [List.cons_append, List.nil_append, ini, Nat.reduceAdd])
  refine cod_shapeN pka (by omega) ?_
  rintro g rfl hc
  (repeat' (first | (apply run_qg 1; (focus rfl); (focus exact wt); (focus rfl); (focus (exact qg1))) | (apply run_qg 4; (focus rfl); (focus exact wt); (focus rfl); (focus (first | exact qg4 | exact qs4))) | (apply run_qg 11; (focus rfl); (focus exact wt); (focus rfl); (focus (exact qs11))) | refine cod_seq ?_ | refine cod_region ?_ | refine run_nil ?_ | refine pst_then ?_ | (apply cod_cond_f; (focus rfl)) | refine cod_block ?_ | refine cod_skip ?_))
  rw [hmid]
  (refine cod_loop_rw (σ := Nat × Nat) (fun y => ((a + (D - B.length) ≤ y.1 ∧ y.1 ≤ y.2) ∧ y.2 ≤ a + min D A.length) ∧ (y.1 = a + (D - B.length) ∨ ∀ x z, A[y.1 - a - 1]? = some x → B[D - (y.1 - a)]? = some z → x.1 ≤ z.1) ∧ (y.2 = a + min D A.length ∨ ∀ x z, A[y.2 - a]? = some x → B[D - 1 - (y.2 - a)]? = some z → z.1 < x.1)) (fun y => [(20, .int .i64 (y.1 : Int)), (21, .int .i64 (y.2 : Int))]) (fun y => [own (.slice (some ⟨g, 0, none⟩) N c) 44 2 N (flat fC (P ++ A ++ B ++ S))]) _ (fun y => y.2 - y.1) ((a, a + A.length)) (by exact ⟨⟨⟨by first | omega | (dsimp only; omega) | dsimp only, by first | omega | (dsimp only; omega) | dsimp only⟩, by first | omega | (dsimp only; omega) | dsimp only⟩, .inl (by first | omega | (dsimp only; omega) | dsimp only), .inl (by first | omega | (dsimp only; omega) | dsimp only)⟩) (by exact fsa) (by (first | exact HSub.of_picks_rest (by exact pca))) (fun ⟨s, r⟩ ⟨⟨⟨hs1, hs2⟩, hr⟩, f1, f2⟩ => ?_); dsimp only [List.cons_append, List.nil_append])
  dsimp only at hs1 hs2 hr f1 f2
  rcases Nat.lt_or_ge s r with hlt | hge
  · obtain ⟨w, hw2⟩ : ∃ w, (s + r) / 2 = a + w := ⟨(s + r) / 2 - a, by omega⟩
    have hwu : s ≤ a + w ∧ a + w < r := by omega
    obtain ⟨x, hx⟩ : ∃ x, A[w]? = some x := ⟨_, List.getElem?_eq_getElem (by omega)⟩
    obtain ⟨y, hy⟩ : ∃ y, B[D - 1 - w]? = some y := ⟨_, List.getElem?_eq_getElem (by omega)⟩
    have hxl := at_a (P := P) (A := A) (B := B) (S := S) ha hx
    have hyl := at_b (P := P) (A := A) (B := B) (S := S) (m := a + A.length) (by rw [ha]) hy
    have hh : ((s : Int) + (r : Int)) / 2 = ((a + w : Nat) : Int) := by omega
    have hpc : ((a + D : Nat) : Int) + ((a + A.length : Nat) : Int) - 1 - ((a + w : Nat) : Int) = ((a + A.length + (D - 1 - w) : Nat) : Int) := by omega
    have hwx := hw x (List.mem_append_left _ (List.mem_of_getElem? hx))
    have hwy := hw y (List.mem_append_right _ (List.mem_of_getElem? hy))
    have CM := cmp_any kb y x hwy hwx
    have hi1 : a + w < N := by omega
    have hi2 : a + A.length + (D - 1 - w) < N := by omega
    generalize hZ : P ++ A ++ B ++ S = Z at *
    by_cases hyx : y.1 < x.1
    · have hsub : y.1 - x.1 < 0 := by omega
      (repeat' (first | (apply run_qg 1; (focus rfl); (focus exact wt); (focus rfl); (focus (exact qg1))) | (apply run_qg 4; (focus rfl); (focus exact wt); (focus rfl); (focus (first | exact qg4 | exact qs4))) | (apply run_qg 11; (focus rfl); (focus exact wt); (focus rfl); (focus (exact qs11))) | refine cod_seq ?_ | refine cod_region ?_ | refine run_nil ?_ | refine pst_then ?_ | (apply cod_cond_t; (focus rfl)) | refine cod_block ?_ | refine cod_skip ?_ | (apply cod_drawn_k; (focus kernel_rfl); (focus (simp only [List.length_cons, List.length_nil, Nat.reduceAdd]; rfl))) | (apply drnK_take 1; (focus rfl); (focus rfl); (focus exact wt); (focus (decide +kernel)); (focus exact hsq); (focus rfl); (focus (exact qg1))) | (apply drnK_take 4; (focus rfl); (focus rfl); (focus exact wt); (focus (decide +kernel)); (focus exact hsq); (focus rfl); (focus (first | exact qg4 | exact qs4))) | (apply drnK_done; (focus (decide +kernel))) | (apply drnK_skip; (focus rfl)) | (apply drnK_wrap; (focus rfl))))
      rw [hh]
      skip
      rw [hpc]
      (refine drnK_at 5 ?_; refine drnK_take _ rfl rfl wt (by decide +kernel) hsq rfl (q_index_own rfl rfl rfl pka rfl (by omega)) ?_)
      (repeat' (first | (apply drnK_take 2; (focus rfl); (focus rfl); (focus exact wt); (focus (decide +kernel)); (focus exact hsq); (focus rfl); (focus (first | exact qg2 | exact qs2))) | (apply drnK_take 3; (focus rfl); (focus rfl); (focus exact wt); (focus (decide +kernel)); (focus exact hsq); (focus rfl); (focus (first | exact qg3 | exact qs3))) | (apply drnK_done; (focus (decide +kernel))) | (apply drnK_skip; (focus rfl))))
      (refine drnK_at 11 ?_; (first | refine drnK_ones _ (by rfl) (by rfl) (by kernel_rfl) wt (by rfl) (by exact (opr_callv_ls (first := []) (cap := [bptr kb 0]) rfl rfl rfl CM rfl (Lp.view (KB_x kb) Lp.nil (view_kb pka)))) ?_ | refine drnK_onen _ (by rfl) (by rfl) (by kernel_rfl) wt (by exact (opr_callv_ls (first := []) (cap := [bptr kb 0]) rfl rfl rfl CM rfl (Lp.view (KB_x kb) Lp.nil (view_kb pka)))) ?_); rintro _ _ ⟨rfl, rfl⟩; refine ⟨(by first | exact fun h => absurd h (by decide) | exact fun _ => hsq), ?_⟩; (try dsimp only [List.cons_append, List.nil_append]))
      (repeat' (first | (apply run_qg 1; (focus rfl); (focus exact wt); (focus rfl); (focus (exact qg1))) | refine cod_region ?_ | refine run_nil ?_ | refine pst_then ?_ | (apply cod_cond_f; (focus rfl)) | refine pst_block ?_ | (apply drnK_take 4; (focus rfl); (focus rfl); (focus exact wt); (focus (decide +kernel)); (focus exact hsq); (focus rfl); (focus (first | exact qg4 | exact qs4))) | (apply drnK_end; (focus (decide +kernel)))))
      rw [← hZ]
      refine pst_again ((s, a + w)) ?_ (FSub.of (by (try dsimp only); exact fsa)) (by (try dsimp only); exact hsa) ?_
      · refine ⟨⟨⟨hs1, by dsimp only; omega⟩, by dsimp only; omega⟩, f1, .inr fun x' z' h1 h2 => ?_⟩
        dsimp only at h1 h2
        rw [Nat.add_sub_cancel_left] at h1 h2
        rw [hx] at h1
        rw [hy] at h2
        cases h1
        cases h2
        exact hyx
      · dsimp only; omega
    · have hsub : ¬ y.1 - x.1 < 0 := by omega
      (repeat' (first | (apply run_qg 1; (focus rfl); (focus exact wt); (focus rfl); (focus (exact qg1))) | (apply run_qg 4; (focus rfl); (focus exact wt); (focus rfl); (focus (first | exact qg4 | exact qs4))) | (apply run_qg 11; (focus rfl); (focus exact wt); (focus rfl); (focus (exact qs11))) | refine cod_seq ?_ | refine cod_region ?_ | refine run_nil ?_ | refine pst_then ?_ | (apply cod_cond_t; (focus rfl)) | refine cod_block ?_ | refine cod_skip ?_ | (apply cod_drawn_k; (focus kernel_rfl); (focus (simp only [List.length_cons, List.length_nil, Nat.reduceAdd]; rfl))) | (apply drnK_take 1; (focus rfl); (focus rfl); (focus exact wt); (focus (decide +kernel)); (focus exact hsq); (focus rfl); (focus (exact qg1))) | (apply drnK_take 4; (focus rfl); (focus rfl); (focus exact wt); (focus (decide +kernel)); (focus exact hsq); (focus rfl); (focus (first | exact qg4 | exact qs4))) | (apply drnK_done; (focus (decide +kernel))) | (apply drnK_skip; (focus rfl)) | (apply drnK_wrap; (focus rfl))))
      rw [hh]
      skip
      rw [hpc]
      (refine drnK_at 5 ?_; refine drnK_take _ rfl rfl wt (by decide +kernel) hsq rfl (q_index_own rfl rfl rfl pka rfl (by omega)) ?_)
      (repeat' (first | (apply drnK_take 2; (focus rfl); (focus rfl); (focus exact wt); (focus (decide +kernel)); (focus exact hsq); (focus rfl); (focus (first | exact qg2 | exact qs2))) | (apply drnK_take 3; (focus rfl); (focus rfl); (focus exact wt); (focus (decide +kernel)); (focus exact hsq); (focus rfl); (focus (first | exact qg3 | exact qs3))) | (apply drnK_done; (focus (decide +kernel))) | (apply drnK_skip; (focus rfl))))
      (refine drnK_at 11 ?_; (first | refine drnK_ones _ (by rfl) (by rfl) (by kernel_rfl) wt (by rfl) (by exact (opr_callv_ls (first := []) (cap := [bptr kb 0]) rfl rfl rfl CM rfl (Lp.view (KB_x kb) Lp.nil (view_kb pka)))) ?_ | refine drnK_onen _ (by rfl) (by rfl) (by kernel_rfl) wt (by exact (opr_callv_ls (first := []) (cap := [bptr kb 0]) rfl rfl rfl CM rfl (Lp.view (KB_x kb) Lp.nil (view_kb pka)))) ?_); rintro _ _ ⟨rfl, rfl⟩; refine ⟨(by first | exact fun h => absurd h (by decide) | exact fun _ => hsq), ?_⟩; (try dsimp only [List.cons_append, List.nil_append]))
      (repeat' (first | (apply run_qg 1; (focus rfl); (focus exact wt); (focus rfl); (focus (exact qg1))) | (apply run_qg 4; (focus rfl); (focus exact wt); (focus rfl); (focus (first | exact qg4 | exact qs4))) | refine cod_region ?_ | refine run_nil ?_ | refine pst_then ?_ | (apply cod_cond_t; (focus rfl)) | refine pst_block ?_ | (apply drnK_take 4; (focus rfl); (focus rfl); (focus exact wt); (focus (decide +kernel)); (focus exact hsq); (focus rfl); (focus (first | exact qg4 | exact qs4))) | (apply drnK_end; (focus (decide +kernel)))))
      rw [← hZ, show ((a + w : Nat) : Int) + 1 = ((a + w + 1 : Nat) : Int) by omega]
      refine pst_again ((a + w + 1, r)) ?_ (FSub.of (by (try dsimp only); exact fsa)) (by (try dsimp only); exact hsa) ?_
      · refine ⟨⟨⟨by dsimp only; omega, by dsimp only; omega⟩, hr⟩, .inr fun x' z' h1 h2 => ?_, f2⟩
        dsimp only at h1 h2
        rw [show a + w + 1 - a - 1 = w by omega, hx] at h1
        rw [show D - (a + w + 1 - a) = D - 1 - w by omega, hy] at h2
        cases h1
        cases h2
        omega
      · dsimp only; omega
  · obtain ⟨s, rfl⟩ : ∃ k, s = a + k := ⟨s - a, by omega⟩
    have hrs : r = a + s := by omega
    subst hrs
    rw [Nat.add_sub_cancel_left] at f1 f2
    have hsA : s ≤ A.length := by omega
    have hsD : s ≤ D := by omega
    have hlow := cut_low hA hB hD (by omega) hsA hsD (by rcases f1 with h | h; exact .inl (by omega); exact .inr h)
    have hhigh := cut_high hA hB hsA hsD (by omega) (by rcases f2 with h | h; exact .inl (by omega); exact .inr h)
    obtain ⟨f, rfl⟩ : ∃ f, D = s + f := ⟨D - s, by omega⟩
    rw [Nat.add_sub_cancel_left] at hlow hhigh
    have hfB : f ≤ B.length := by omega
    have hDs : s + f + 1 ≤ A.length + B.length := by omega
    have hDp : 1 ≤ s + f := by omega
    clear f1 f2 hs1 hs2 hr hge hD hmid hside hsD
    (try clear hst)
    have hsum := halves (a1 := A.take s) (a2 := A.drop s) (b1 := B.take f) (b2 := B.drop f) (by rw [List.take_append_drop]; exact hA) (by rw [List.take_append_drop]; exact hB) hlow hhigh
    rw [List.take_append_drop, List.take_append_drop] at hsum
    have eA : A = A.take s ++ A.drop s := (List.take_append_drop _ _).symm
    have eB : B = B.take f ++ B.drop f := (List.take_append_drop _ _).symm
    have l1 : (A.take s).length = s := by rw [List.length_take]; omega
    have l2 : s + (A.drop s).length = A.length := by rw [List.length_drop]; omega
    have l3 : (B.take f).length = f := by rw [List.length_take]; omega
    have l4 : f + (B.drop f).length = B.length := by rw [List.length_drop]; omega
    have w1 : ∀ x ∈ A.take s ++ B.take f, 0 ≤ x.1 ∧ x.1 ≤ 1000000000000 := fun x hx => hw x (by rcases List.mem_append.1 hx with h | h; exact List.mem_append_left _ (List.mem_of_mem_take h); exact List.mem_append_right _ (List.mem_of_mem_take h))
    have w2 : ∀ x ∈ A.drop s ++ B.drop f, 0 ≤ x.1 ∧ x.1 ≤ 1000000000000 := fun x hx => hw x (by rcases List.mem_append.1 hx with h | h; exact List.mem_append_left _ (List.mem_of_mem_drop h); exact List.mem_append_right _ (List.mem_of_mem_drop h))
    have s1 := srt_take hA s
    have s2 := srt_drop hA s
    have s3 := srt_take hB f
    have s4 := srt_drop hB f
    have hfin : P ++ sortW (A ++ B) ++ S = P ++ sortW (A.take s ++ B.take f) ++ sortW (A.drop s ++ B.drop f) ++ S := by rw [← hsum]; simp
    rw [hfin]
    have hLn := sortW_len (A.take s ++ B.take f)
    rw [List.length_append, l1, l3] at hLn
    have hend : ((a + (s + f) : Nat) : Int) + ((a + A.length : Nat) : Int) - ((a + s : Nat) : Int) = ((a + A.length + f : Nat) : Int) := by omega
    have hST : P ++ A ++ B ++ S = P ++ A.take s ++ A.drop s ++ B.take f ++ (B.drop f ++ S) := by
      rw [show P ++ A.take s ++ A.drop s ++ B.take f ++ (B.drop f ++ S) = P ++ (A.take s ++ A.drop s) ++ (B.take f ++ B.drop f) ++ S by simp only [List.append_assoc], List.take_append_drop, List.take_append_drop]
    rw [hST]
    clear hlow hhigh hsum hfin hST eA eB
    generalize A.take s = A1 at *
    generalize A.drop s = A2 at *
    generalize B.take f = B1 at *
    generalize B.drop f = B2 at *
    have ROT : 0 < A2.length → 0 < B1.length → Ct Try.prog 74 _ _ _ := fun g1 g2 => rotate_any (some ⟨g, 0, none⟩) c (cmpV kb) (P ++ A1) A2 B1 (B2 ++ S) (a + s) (a + A.length) (a + A.length + f) N (by rw [List.length_append]; omega) (by omega) (by omega) g1 g2 (by simp only [List.length_append]; omega) hNb
    have LFT : 0 < A1.length → 0 < B1.length → Ct Try.prog 56 _ _ _ := fun g1 g2 => ih (some ⟨g, 0, none⟩) c kb P A1 B1 (A2 ++ B2 ++ S) a (a + s) (a + (s + f)) N ha (by omega) (by omega) g1 g2 (by omega) (by simp only [List.length_append]; omega) hNb w1 s1 s3
    have RGT : 0 < A2.length → 0 < B2.length → Ct Try.prog 56 _ _ _ := fun g1 g2 => ih (some ⟨g, 0, none⟩) c kb (P ++ sortW (A1 ++ B1)) A2 B2 S (a + (s + f)) (a + A.length + f) (a + A.length + B.length) N (by rw [List.length_append]; omega) (by omega) (by omega) g1 g2 (by omega) (by simp only [List.length_append]; omega) hNb w2 s2 s4
    unfold cmpV at ROT LFT RGT
    by_cases hc1 : (0 < A2.length ∧ 0 < B1.length)
    · (repeat' (first | (apply run_qg 1; (focus rfl); (focus exact wt); (focus rfl); (focus (exact qg1))) | (apply run_qg 4; (focus rfl); (focus exact wt); (focus rfl); (focus (first | exact qg4 | exact qs4))) | refine cod_seq ?_ | refine cod_region ?_ | refine run_nil ?_ | refine pst_then ?_ | (apply cod_cond_t; (focus rfl)) | (apply cod_cond_f; (focus rfl)) | refine cod_exit ?_ | refine pst_block_here ?_ | refine pst_then_exit ?_))
      rw [hend]
      refine run_os wt rfl (opr_call_l rfl (ROT hc1.1 hc1.2) rfl lpa) ?_
      rintro _ _ ⟨_, ⟨rfl, rfl⟩, rfl⟩
      dsimp only [List.cons_append, List.nil_append]
      rw [show P ++ A1 ++ B1 ++ A2 ++ (B2 ++ S) = P ++ A1 ++ B1 ++ (A2 ++ B2 ++ S) by simp]
      by_cases hc2 : (0 < A1.length ∧ 0 < B1.length)
      · (repeat' (first | (apply run_qg 1; (focus rfl); (focus exact wt); (focus rfl); (focus (exact qg1))) | (apply run_qg 4; (focus rfl); (focus exact wt); (focus rfl); (focus (first | exact qg4 | exact qs4))) | refine cod_seq ?_ | refine cod_region ?_ | refine run_nil ?_ | refine pst_then ?_ | (apply cod_cond_t; (focus rfl))))
        refine run_os wt rfl (opr_call_l rfl (LFT hc2.1 hc2.2) rfl (Lp.out pka (Lp.view (KB_x kb) Lp.nil (view_kb pka)))) ?_
        rintro _ _ ⟨_, ⟨rfl, rfl⟩, rfl⟩
        dsimp only [List.cons_append, List.nil_append]
        rw [show P ++ sortW (A1 ++ B1) ++ (A2 ++ B2 ++ S) = P ++ sortW (A1 ++ B1) ++ A2 ++ B2 ++ S by simp]
        by_cases hc3 : (0 < A2.length ∧ 0 < B2.length)
        · (repeat' (first | (apply run_qg 1; (focus rfl); (focus exact wt); (focus rfl); (focus (exact qg1))) | (apply run_qg 4; (focus rfl); (focus exact wt); (focus rfl); (focus (first | exact qg4 | exact qs4))) | refine cod_seq ?_ | refine cod_region ?_ | refine run_nil ?_ | refine pst_then ?_ | (apply cod_cond_t; (focus rfl))))
          (try rw [hend])
          refine run_os wt rfl (opr_call_l rfl (RGT hc3.1 hc3.2) rfl (Lp.out pka (Lp.view (KB_x kb) Lp.nil (view_kb pka)))) ?_
          rintro _ _ ⟨_, ⟨rfl, rfl⟩, rfl⟩
          dsimp only [List.cons_append, List.nil_append]
          (repeat' (first | refine run_nil ?_))
          exact pst_fin_end rfl (by exact resa) _ (⟨rfl, rfl⟩) (by exact hsa)
        · have e3 : P ++ sortW (A1 ++ B1) ++ A2 ++ B2 ++ S = P ++ sortW (A1 ++ B1) ++ sortW (A2 ++ B2) ++ S := by
            have e9 : sortW (A2 ++ B2) = A2 ++ B2 := by
              rcases Nat.eq_zero_or_pos A2.length with h | h
              · rw [List.eq_nil_of_length_eq_zero h, List.nil_append, sortW_of s4]
              · rw [List.eq_nil_of_length_eq_zero (by omega : B2.length = 0), List.append_nil, sortW_of s2]
            rw [e9]
            simp only [List.append_assoc]
          rw [e3]
          (repeat' (first | (apply run_qg 1; (focus rfl); (focus exact wt); (focus rfl); (focus (exact qg1))) | (apply run_qg 4; (focus rfl); (focus exact wt); (focus rfl); (focus (first | exact qg4 | exact qs4))) | refine cod_seq ?_ | refine cod_region ?_ | refine run_nil ?_ | refine pst_then ?_ | (apply cod_cond_f; (focus rfl)) | refine cod_skip ?_))
          exact pst_fin_end rfl (by exact resa) _ (⟨rfl, rfl⟩) (by exact hsa)
      · have e2 : P ++ A1 ++ B1 ++ (A2 ++ B2 ++ S) = P ++ sortW (A1 ++ B1) ++ A2 ++ B2 ++ S := by
          have e9 : sortW (A1 ++ B1) = A1 ++ B1 := by
            rcases Nat.eq_zero_or_pos A1.length with h | h
            · rw [List.eq_nil_of_length_eq_zero h, List.nil_append, sortW_of s3]
            · rw [List.eq_nil_of_length_eq_zero (by omega : B1.length = 0), List.append_nil, sortW_of s1]
          rw [e9]
          simp only [List.append_assoc]
        rw [e2]
        by_cases hc3 : (0 < A2.length ∧ 0 < B2.length)
        · (repeat' (first | (apply run_qg 1; (focus rfl); (focus exact wt); (focus rfl); (focus (exact qg1))) | (apply run_qg 4; (focus rfl); (focus exact wt); (focus rfl); (focus (first | exact qg4 | exact qs4))) | refine cod_seq ?_ | refine cod_region ?_ | refine run_nil ?_ | refine pst_then ?_ | (apply cod_cond_t; (focus rfl)) | (apply cod_cond_f; (focus rfl)) | refine cod_skip ?_ | (apply run_offs; (focus rfl); (focus rfl); (focus rfl))))
          (try rw [hend])
          refine run_os wt rfl (opr_call_l rfl (RGT hc3.1 hc3.2) rfl (Lp.out pka (Lp.view (KB_x kb) Lp.nil (view_kb pka)))) ?_
          rintro _ _ ⟨_, ⟨rfl, rfl⟩, rfl⟩
          dsimp only [List.cons_append, List.nil_append]
          (repeat' (first | refine run_nil ?_))
          exact pst_fin_end rfl (by exact resa) _ (⟨rfl, rfl⟩) (by exact hsa)
        · have e3 : P ++ sortW (A1 ++ B1) ++ A2 ++ B2 ++ S = P ++ sortW (A1 ++ B1) ++ sortW (A2 ++ B2) ++ S := by
            have e9 : sortW (A2 ++ B2) = A2 ++ B2 := by
              rcases Nat.eq_zero_or_pos A2.length with h | h
              · rw [List.eq_nil_of_length_eq_zero h, List.nil_append, sortW_of s4]
              · rw [List.eq_nil_of_length_eq_zero (by omega : B2.length = 0), List.append_nil, sortW_of s2]
            rw [e9]
            simp only [List.append_assoc]
          rw [e3]
          (repeat' (first | (apply run_qg 1; (focus rfl); (focus exact wt); (focus rfl); (focus (exact qg1))) | (apply run_qg 4; (focus rfl); (focus exact wt); (focus rfl); (focus (first | exact qg4 | exact qs4))) | refine cod_seq ?_ | refine cod_region ?_ | refine run_nil ?_ | refine pst_then ?_ | (apply cod_cond_f; (focus rfl)) | refine cod_skip ?_ | (apply run_offs; (focus rfl); (focus rfl); (focus rfl))))
          exact pst_fin_end rfl (by exact resa) _ (⟨rfl, rfl⟩) (by exact hsa)
    · have e1 : P ++ A1 ++ A2 ++ B1 ++ (B2 ++ S) = P ++ A1 ++ B1 ++ (A2 ++ B2 ++ S) := by
        rcases Nat.eq_zero_or_pos A2.length with h | h
        · rw [List.eq_nil_of_length_eq_zero h]; simp
        · rw [List.eq_nil_of_length_eq_zero (by omega : B1.length = 0)]; simp
      rw [e1]
      by_cases hc2 : (0 < A1.length ∧ 0 < B1.length)
      · (repeat' (first | (apply run_qg 1; (focus rfl); (focus exact wt); (focus rfl); (focus (exact qg1))) | (apply run_qg 4; (focus rfl); (focus exact wt); (focus rfl); (focus (first | exact qg4 | exact qs4))) | refine cod_seq ?_ | refine cod_region ?_ | refine run_nil ?_ | refine pst_then ?_ | (apply cod_cond_t; (focus rfl)) | (apply cod_cond_f; (focus rfl)) | refine cod_exit ?_ | refine cod_skip ?_ | refine pst_block_here ?_ | refine pst_then_exit ?_ | (apply run_offs; (focus rfl); (focus rfl); (focus rfl))))
        refine run_os wt rfl (opr_call_l rfl (LFT hc2.1 hc2.2) rfl (Lp.out pka (Lp.view (KB_x kb) Lp.nil (view_kb pka)))) ?_
        rintro _ _ ⟨_, ⟨rfl, rfl⟩, rfl⟩
        dsimp only [List.cons_append, List.nil_append]
        rw [show P ++ sortW (A1 ++ B1) ++ (A2 ++ B2 ++ S) = P ++ sortW (A1 ++ B1) ++ A2 ++ B2 ++ S by simp]
        by_cases hc3 : (0 < A2.length ∧ 0 < B2.length)
        · (repeat' (first | (apply run_qg 1; (focus rfl); (focus exact wt); (focus rfl); (focus (exact qg1))) | (apply run_qg 4; (focus rfl); (focus exact wt); (focus rfl); (focus (first | exact qg4 | exact qs4))) | refine cod_seq ?_ | refine cod_region ?_ | refine run_nil ?_ | refine pst_then ?_ | (apply cod_cond_t; (focus rfl))))
          (try rw [hend])
          refine run_os wt rfl (opr_call_l rfl (RGT hc3.1 hc3.2) rfl (Lp.out pka (Lp.view (KB_x kb) Lp.nil (view_kb pka)))) ?_
          rintro _ _ ⟨_, ⟨rfl, rfl⟩, rfl⟩
          dsimp only [List.cons_append, List.nil_append]
          (repeat' (first | refine run_nil ?_))
          exact pst_fin_end rfl (by exact resa) _ (⟨rfl, rfl⟩) (by exact hsa)
        · have e3 : P ++ sortW (A1 ++ B1) ++ A2 ++ B2 ++ S = P ++ sortW (A1 ++ B1) ++ sortW (A2 ++ B2) ++ S := by
            have e9 : sortW (A2 ++ B2) = A2 ++ B2 := by
              rcases Nat.eq_zero_or_pos A2.length with h | h
              · rw [List.eq_nil_of_length_eq_zero h, List.nil_append, sortW_of s4]
              · rw [List.eq_nil_of_length_eq_zero (by omega : B2.length = 0), List.append_nil, sortW_of s2]
            rw [e9]
            simp only [List.append_assoc]
          rw [e3]
          (repeat' (first | (apply run_qg 1; (focus rfl); (focus exact wt); (focus rfl); (focus (exact qg1))) | (apply run_qg 4; (focus rfl); (focus exact wt); (focus rfl); (focus (first | exact qg4 | exact qs4))) | refine cod_seq ?_ | refine cod_region ?_ | refine run_nil ?_ | refine pst_then ?_ | (apply cod_cond_f; (focus rfl)) | refine cod_skip ?_ | (apply run_offs; (focus rfl); (focus rfl); (focus rfl))))
          exact pst_fin_end rfl (by exact resa) _ (⟨rfl, rfl⟩) (by exact hsa)
      · have e2 : P ++ A1 ++ B1 ++ (A2 ++ B2 ++ S) = P ++ sortW (A1 ++ B1) ++ A2 ++ B2 ++ S := by
          have e9 : sortW (A1 ++ B1) = A1 ++ B1 := by
            rcases Nat.eq_zero_or_pos A1.length with h | h
            · rw [List.eq_nil_of_length_eq_zero h, List.nil_append, sortW_of s3]
            · rw [List.eq_nil_of_length_eq_zero (by omega : B1.length = 0), List.append_nil, sortW_of s1]
          rw [e9]
          simp only [List.append_assoc]
        rw [e2]
        by_cases hc3 : (0 < A2.length ∧ 0 < B2.length)
        · (repeat' (first | (apply run_qg 1; (focus rfl); (focus exact wt); (focus rfl); (focus (exact qg1))) | (apply run_qg 4; (focus rfl); (focus exact wt); (focus rfl); (focus (first | exact qg4 | exact qs4))) | refine cod_seq ?_ | refine cod_region ?_ | refine run_nil ?_ | refine pst_then ?_ | (apply cod_cond_t; (focus rfl)) | (apply cod_cond_f; (focus rfl)) | refine cod_exit ?_ | refine cod_skip ?_ | refine pst_block_here ?_ | refine pst_then_exit ?_))
          (try rw [hend])
          refine run_os wt rfl (opr_call_l rfl (RGT hc3.1 hc3.2) rfl (Lp.out pka (Lp.view (KB_x kb) Lp.nil (view_kb pka)))) ?_
          rintro _ _ ⟨_, ⟨rfl, rfl⟩, rfl⟩
          dsimp only [List.cons_append, List.nil_append]
          (repeat' (first | refine run_nil ?_))
          exact pst_fin_end rfl (by exact resa) _ (⟨rfl, rfl⟩) (by exact hsa)
        · have e3 : P ++ sortW (A1 ++ B1) ++ A2 ++ B2 ++ S = P ++ sortW (A1 ++ B1) ++ sortW (A2 ++ B2) ++ S := by
            have e9 : sortW (A2 ++ B2) = A2 ++ B2 := by
              rcases Nat.eq_zero_or_pos A2.length with h | h
              · rw [List.eq_nil_of_length_eq_zero h, List.nil_append, sortW_of s4]
              · rw [List.eq_nil_of_length_eq_zero (by omega : B2.length = 0), List.append_nil, sortW_of s2]
            rw [e9]
            simp only [List.append_assoc]
          rw [e3]
          (repeat' (first | (apply run_qg 1; (focus rfl); (focus exact wt); (focus rfl); (focus (exact qg1))) | (apply run_qg 4; (focus rfl); (focus exact wt); (focus rfl); (focus (first | exact qg4 | exact qs4))) | refine cod_seq ?_ | refine cod_region ?_ | refine run_nil ?_ | refine pst_then ?_ | (apply cod_cond_f; (focus rfl)) | refine cod_exit ?_ | refine cod_skip ?_ | refine pst_block_here ?_ | refine pst_then_exit ?_ | (apply run_offs; (focus rfl); (focus rfl); (focus rfl))))
          exact pst_fin_end rfl (by exact resa) _ (⟨rfl, rfl⟩) (by exact hsa)
theorem sym_any : ∀ sz, SymOk sz := by
  intro sz
  induction sz with
  | zero => intro q c kb P A B S a m e N ha hm he hA0 hB0 hsz; omega
  | succ sz ih =>
    intro q c kb P A B S a m e N ha hm he hA0 hB0 hsz hN hNb hw hA hB
    have hlen : P.length + A.length + B.length + S.length = N := by rw [← hN]; simp only [List.length_append]
    subst hm he
    by_cases h1 : A.length = 1
    · obtain ⟨x, rfl⟩ : ∃ x, A = [x] := List.length_eq_one_iff.1 h1
      exact sym_left q c kb P B S x a (a + [x].length + B.length) N ha rfl (by simp only [List.length_singleton] at hlen; omega) hNb (hw x (by simp)) (fun y hy => hw y (List.mem_append_right _ hy)) hB
    · by_cases h2 : B.length = 1
      · obtain ⟨x, rfl⟩ : ∃ x, B = [x] := List.length_eq_one_iff.1 h2
        exact sym_right q c kb P A S x a (a + A.length) N ha rfl (by omega) (by simp only [List.length_singleton] at hlen; omega) hNb (hw x (by simp)) (fun y hy => hw y (List.mem_append_left _ hy)) hA
      · by_cases hside : (A.length + B.length) / 2 < A.length
        · exact sym_g1 sz ih q c kb P A B S a N _ ha (by omega) (by omega) hsz hN hNb hw hA hB rfl hside
        · exact sym_g2 sz ih q c kb P A B S a N _ ha (by omega) (by omega) hsz hN hNb hw hA hB rfl (by omega)
end Go.Proofs.Ytppnaofebkpbkaa.hsort
/-
  huff: slices.SortStableFunc of coins: the walk.
-/
namespace Go.Proofs.Ytppnaofebkpbkaa.hsort
open Go.RowKit kit sl Go.Proofs.Ytppnaofebkpbkaa.srt
set_option linter.unusedVariables false
/-- sorted block by block -/
def blk (bs : Nat) : Nat → List CV → List CV
  | 0, l => sortW l
  | f + 1, l => sortW (l.take bs) ++ blk bs f (l.drop bs)
theorem blk_nil (bs : Nat) : ∀ f, blk bs f [] = []
  | 0 => rfl
  | f + 1 => by rw [blk, List.take_nil, List.drop_nil, blk_nil bs f]; rfl
theorem blk_small {bs f : Nat} {l : List CV} (h : l.length ≤ bs) : blk bs f l = sortW l := by
  cases f with
  | zero => rfl
  | succ f => rw [blk, List.take_of_length_le h, List.drop_of_length_le h, blk_nil, List.append_nil]
theorem blk_fuel {bs : Nat} (hb : 0 < bs) : ∀ (f g : Nat) (l : List CV), l.length ≤ f → l.length ≤ g → blk bs f l = blk bs g l
  | 0, g, l, h, _ => by
    have : l = [] := List.eq_nil_of_length_eq_zero (by omega)
    subst this
    rw [blk_nil, blk_nil]
  | f + 1, 0, l, _, h => by
    have : l = [] := List.eq_nil_of_length_eq_zero (by omega)
    subst this
    rw [blk_nil, blk_nil]
  | f + 1, g + 1, l, h, h' => by
    rw [blk, blk]
    by_cases hl : l = []
    · subst hl
      rw [List.drop_nil, blk_nil, blk_nil]
    · have : 0 < l.length := List.length_pos_iff.2 hl
      rw [blk_fuel hb f g (l.drop bs) (by rw [List.length_drop]; omega) (by rw [List.length_drop]; omega)]
theorem blk_step {bs N : Nat} (hb : 0 < bs) {l : List CV} (h : l.length ≤ N) (h0 : 0 < N) : blk bs N l = sortW (l.take bs) ++ blk bs N (l.drop bs) := by
  obtain ⟨f, rfl⟩ : ∃ f, N = f + 1 := ⟨N - 1, by omega⟩
  rw [blk]
  congr 1
  by_cases hl : l = []
  · subst hl
    rw [List.drop_nil, blk_nil, blk_nil]
  · have : 0 < l.length := List.length_pos_iff.2 hl
    exact blk_fuel hb f (f + 1) _ (by rw [List.length_drop]; omega) (by rw [List.length_drop]; omega)
theorem blk_len {bs : Nat} : ∀ (f : Nat) (l : List CV), (blk bs f l).length = l.length
  | 0, l => sortW_len l
  | f + 1, l => by
    rw [blk, List.length_append, sortW_len, blk_len f, List.length_take, List.length_drop]
    omega
theorem two_take {l : List CV} (bs : Nat) : l.take bs ++ (l.drop bs).take bs = l.take (2 * bs) := by
  rw [Nat.two_mul, List.take_add]
theorem two_drop {l : List CV} (bs : Nat) : (l.drop bs).drop bs = l.drop (2 * bs) := by
  rw [List.drop_drop, Nat.two_mul]
attribute [local irreducible] box own sl old bptr eptr Qt Opr Run Cod Pst Drn
set_option maxRecDepth 100000 in
set_option maxHeartbeats 8000000 in
theorem stable_any (q : Option Addr) (c kb : Nat) (l : List CV) (N : Nat) (hN : l.length = N) (hN0 : 0 < N) (hNb : N ≤ 1000000000) (hw : ∀ x ∈ l, 0 ≤ x.1 ∧ x.1 ≤ 1000000000000) :
    Ct Try.prog 32 [.slice q N c, .int .i64 (N : Int), cmpV kb] [own (.slice q N c) 44 2 N (flat fC l), KB kb]
      fun v H' => v = .tuple #[] ∧ H' = [own (.slice q N c) 44 2 N (flat fC (sortW l))] := by
  (refine spec_enter Try.func32 Try.ntmps32 rfl rfl fun Fr => ?_; dsimp only [List.cons_append, List.nil_append, ini, Nat.reduceAdd])
  (repeat' (first | (apply run_qg 1; (focus rfl); (focus exact wt); (focus rfl); (focus (exact qg1))) | refine cod_seq ?_ | refine cod_region ?_ | refine run_nil ?_ | refine pst_then ?_ | refine cod_block ?_))
  (refine cod_loop_rw (σ := List CV × List CV × Nat) (fun y => ((y.1 ++ blk 20 N y.2.1 = blk 20 N l ∧ y.1.length = y.2.2) ∧ y.2.2 + y.2.1.length = N) ∧ ∀ x ∈ y.2.1, 0 ≤ x.1 ∧ x.1 ≤ 1000000000000) (fun y => [(7, .int .i64 (y.2.2 : Int)), (8, .int .i64 ((y.2.2 + 20 : Nat) : Int))]) (fun y => [own (.slice q N c) 44 2 N (flat fC (y.1 ++ y.2.1))]) _ (fun y => y.2.1.length) (([], l, 0)) (by exact ⟨⟨⟨rfl, rfl⟩, by dsimp only; omega⟩, hw⟩) (by exact fsa) (by (first | exact HSub.of_picks_rest (by exact pca))) (fun ⟨D, T, a⟩ ⟨⟨⟨hD, hDl⟩, hT⟩, hwT⟩ => ?_); dsimp only [List.cons_append, List.nil_append])
  dsimp only at hD hDl hT hwT
  by_cases h20 : a + 20 ≤ N
  · have ht1 : (T.take 20).length = 20 := by rw [List.length_take]; omega
    have ht2 : (T.drop 20).length = T.length - 20 := List.length_drop
    have IN := ins_any q c kb D (T.take 20) (T.drop 20) a (a + 20) N hDl (by omega) (by simp only [List.length_append]; omega) hN0 hNb fun x hx => hwT x (List.mem_of_mem_take hx)
    rw [show D ++ T = D ++ T.take 20 ++ T.drop 20 by rw [List.append_assoc, List.take_append_drop]]
    have hst := blk_step (bs := 20) (N := N) (by decide) (l := T) (by omega) hN0
    have hc2 : ((a + 20 : Nat) : Int) + 20 = ((a + 20 + 20 : Nat) : Int) := by omega
    (repeat' (first | (apply run_qg 1; (focus rfl); (focus exact wt); (focus rfl); (focus (exact qg1))) | (apply run_qg 4; (focus rfl); (focus exact wt); (focus rfl); (focus (first | exact qg4 | exact qs4))) | refine cod_seq ?_ | refine cod_region ?_ | refine run_nil ?_ | refine pst_then ?_ | (apply cod_cond_t; (focus rfl)) | refine cod_block ?_ | refine cod_skip ?_))
    refine run_os wt rfl (opr_call_l rfl IN rfl (Lp.out pka (Lp.view (KB_x kb) Lp.nil (view_kb pka)))) ?_
    rintro _ _ ⟨_, ⟨rfl, rfl⟩, rfl⟩
    dsimp only [List.cons_append, List.nil_append]
    (repeat' (first | (apply run_qg 1; (focus rfl); (focus exact wt); (focus rfl); (focus (exact qg1))) | (apply run_qg 4; (focus rfl); (focus exact wt); (focus rfl); (focus (first | exact qg4 | exact qs4))) | refine cod_seq ?_ | refine cod_region ?_ | refine run_nil ?_ | refine pst_then ?_ | refine pst_block ?_))
    rw [hc2]
    refine pst_again ((D ++ sortW (T.take 20), T.drop 20, a + 20)) ?_ (FSub.of (by (try dsimp only); exact fsa)) (by (try dsimp only); exact hsa) ?_
    · refine ⟨⟨⟨?_, ?_⟩, by dsimp only; omega⟩, fun x hx => hwT x (List.mem_of_mem_drop hx)⟩
      · rw [← hD, hst, List.append_assoc]
      · dsimp only; rw [List.length_append, sortW_len]; omega
    · dsimp only; omega
  · have IN := ins_any q c kb D T [] a N N hDl (by omega) (by simp only [List.length_append, List.length_nil]; omega) hN0 hNb hwT
    rw [show D ++ T = D ++ T ++ [] by rw [List.append_nil]]
    have hfin : D ++ sortW T ++ [] = blk 20 N l := by rw [List.append_nil, ← hD, blk_small (by omega)]
    (repeat' (first | (apply run_qg 1; (focus rfl); (focus exact wt); (focus rfl); (focus (exact qg1))) | (apply run_qg 4; (focus rfl); (focus exact wt); (focus rfl); (focus (first | exact qg4 | exact qs4))) | refine cod_seq ?_ | refine cod_region ?_ | refine run_nil ?_ | refine pst_then ?_ | (apply cod_cond_f; (focus rfl)) | refine cod_exit ?_ | refine pst_block_here ?_ | refine pst_then_exit ?_))
    refine run_os wt rfl (opr_call_l rfl IN rfl (Lp.out pka (Lp.view (KB_x kb) Lp.nil (view_kb pka)))) ?_
    rintro _ _ ⟨_, ⟨rfl, rfl⟩, rfl⟩
    dsimp only [List.cons_append, List.nil_append]
    rw [hfin]
    clear hD hDl hT hwT IN hfin
    (repeat' (first | refine run_nil ?_ | refine pst_then ?_ | refine cod_block ?_))
    (refine cod_loop_rw (σ := Nat × Int × Int) (fun y => 20 ≤ y.1) (fun y => [(6, .int .i64 (y.1 : Int)), (7, .int .i64 y.2.1), (8, .int .i64 y.2.2)]) (fun y => [own (.slice q N c) 44 2 N (flat fC (blk y.1 N l))]) _ (fun y => N - y.1) ((20, (a : Int), ((a + 20 : Nat) : Int))) (by exact Nat.le_refl _) (by exact fsa) (by (first | exact HSub.of_picks_rest (by exact pca))) (fun ⟨bs, x7, x8⟩ hbs => ?_); dsimp only [List.cons_append, List.nil_append])
    dsimp only at hbs ⊢
    by_cases hbN : bs < N
    · have h2b : 2 * (bs : Int) = ((2 * bs : Nat) : Int) := by omega
      have h2b' : (bs : Int) * 2 = ((2 * bs : Nat) : Int) := by omega
      (repeat' (first | (apply run_qg 1; (focus rfl); (focus exact wt); (focus rfl); (focus (exact qg1))) | (apply run_qg 4; (focus rfl); (focus exact wt); (focus rfl); (focus (first | exact qg4 | exact qs4))) | refine cod_seq ?_ | refine cod_region ?_ | refine run_nil ?_ | refine pst_then ?_ | (apply cod_cond_t; (focus rfl)) | refine cod_block ?_ | refine cod_skip ?_))
      rw [h2b]
      (refine cod_loop_rw (σ := List CV × List CV × Nat) (fun y => ((y.1 ++ blk (2 * bs) N y.2.1 = blk (2 * bs) N l ∧ y.1.length = y.2.2) ∧ y.2.2 + y.2.1.length = N) ∧ ∀ x ∈ y.2.1, 0 ≤ x.1 ∧ x.1 ≤ 1000000000000) (fun y => [(7, .int .i64 (y.2.2 : Int)), (8, .int .i64 ((2 * bs + y.2.2 : Nat) : Int))]) (fun y => [own (.slice q N c) 44 2 N (flat fC (y.1 ++ blk bs N y.2.1))]) _ (fun y => y.2.1.length) (([], l, 0)) (by exact ⟨⟨⟨rfl, rfl⟩, by dsimp only; omega⟩, hw⟩) (by exact fsa) (by (first | exact HSub.of_picks_rest (by exact pca))) (fun ⟨D, T, a⟩ ⟨⟨⟨hD, hDl⟩, hT⟩, hwT⟩ => ?_); dsimp only [List.cons_append, List.nil_append])
      dsimp only at hD hDl hT hwT
      have hab : (a : Int) + (bs : Int) = ((a + bs : Nat) : Int) := by omega
      have s1 := sortW_srt (T.take bs)
      by_cases hb2 : a + 2 * bs ≤ N
      · have ht1 : (T.take bs).length = bs := by rw [List.length_take]; omega
        have ht2 : ((T.drop bs).take bs).length = bs := by rw [List.length_take, List.length_drop]; omega
        have ht3 : (T.drop (2 * bs)).length = T.length - 2 * bs := List.length_drop
        have e1 := blk_step (bs := bs) (N := N) (by omega) (l := T) (by omega) hN0
        have e2 := blk_step (bs := bs) (N := N) (by omega) (l := T.drop bs) (by rw [List.length_drop]; omega) hN0
        rw [two_drop] at e2
        have e3 := blk_step (bs := 2 * bs) (N := N) (by omega) (l := T) (by omega) hN0
        have hbl := blk_len (bs := bs) N (T.drop (2 * bs))
        have SY := sym_any (2 * bs) q c kb D (sortW (T.take bs)) (sortW ((T.drop bs).take bs)) (blk bs N (T.drop (2 * bs))) a (a + bs) (2 * bs + a) N hDl (by rw [sortW_len]; omega) (by rw [sortW_len]; omega) (by rw [sortW_len]; omega) (by rw [sortW_len]; omega) (by rw [sortW_len, sortW_len]; omega) (by simp only [List.length_append, sortW_len]; omega) hNb (fun x hx => by
          rcases List.mem_append.1 hx with h | h
          · exact hwT x (List.mem_of_mem_take (sortW_mem.1 h))
          · exact hwT x (List.mem_of_mem_drop (List.mem_of_mem_take (sortW_mem.1 h)))) s1 (sortW_srt _)
        rw [show D ++ blk bs N T = D ++ sortW (T.take bs) ++ sortW ((T.drop bs).take bs) ++ blk bs N (T.drop (2 * bs)) by rw [e1, e2]; simp only [List.append_assoc]]
        have hc2 : ((2 * bs + a : Nat) : Int) + ((2 * bs : Nat) : Int) = ((2 * bs + (2 * bs + a) : Nat) : Int) := by omega
        (repeat' (first | (apply run_qg 1; (focus rfl); (focus exact wt); (focus rfl); (focus (exact qg1))) | (apply run_qg 4; (focus rfl); (focus exact wt); (focus rfl); (focus (first | exact qg4 | exact qs4))) | refine cod_seq ?_ | refine cod_region ?_ | refine run_nil ?_ | refine pst_then ?_ | (apply cod_cond_t; (focus rfl)) | refine cod_block ?_ | refine cod_skip ?_))
        rw [hab]
        refine run_os wt rfl (opr_call_l rfl SY rfl (Lp.out pka (Lp.view (KB_x kb) Lp.nil (view_kb pka)))) ?_
        rintro _ _ ⟨_, ⟨rfl, rfl⟩, rfl⟩
        dsimp only [List.cons_append, List.nil_append]
        rw [sortW_app, two_take]
        (repeat' (first | (apply run_qg 1; (focus rfl); (focus exact wt); (focus rfl); (focus (exact qg1))) | (apply run_qg 4; (focus rfl); (focus exact wt); (focus rfl); (focus (first | exact qg4 | exact qs4))) | refine cod_seq ?_ | refine cod_region ?_ | refine run_nil ?_ | refine pst_then ?_ | refine pst_block ?_))
        rw [h2b, hc2]
        refine pst_again ((D ++ sortW (T.take (2 * bs)), T.drop (2 * bs), 2 * bs + a)) ?_ (FSub.of (by (try dsimp only); exact fsa)) (by (try dsimp only); exact hsa) ?_
        · refine ⟨⟨⟨?_, ?_⟩, by dsimp only; omega⟩, fun x hx => hwT x (List.mem_of_mem_drop hx)⟩
          · rw [← hD, e3, List.append_assoc]
          · dsimp only; rw [List.length_append, sortW_len, List.length_take]; omega
        · dsimp only; omega
      · have hfin : D ++ sortW T = blk (2 * bs) N l := by rw [← hD, blk_small (by omega)]
        by_cases hm : a + bs < N
        · have ht1 : (T.take bs).length = bs := by rw [List.length_take]; omega
          have ht2 : (T.drop bs).length = T.length - bs := List.length_drop
          have e1 := blk_step (bs := bs) (N := N) (by omega) (l := T) (by omega) hN0
          rw [blk_small (l := T.drop bs) (by omega)] at e1
          have SY := sym_any (2 * bs) q c kb D (sortW (T.take bs)) (sortW (T.drop bs)) [] a (a + bs) N N hDl (by rw [sortW_len]; omega) (by rw [sortW_len]; omega) (by rw [sortW_len]; omega) (by rw [sortW_len]; omega) (by rw [sortW_len, sortW_len]; omega) (by simp only [List.length_append, sortW_len, List.length_nil]; omega) hNb (fun x hx => by
            rcases List.mem_append.1 hx with h | h
            · exact hwT x (List.mem_of_mem_take (sortW_mem.1 h))
            · exact hwT x (List.mem_of_mem_drop (sortW_mem.1 h))) s1 (sortW_srt _)
          rw [show D ++ blk bs N T = D ++ sortW (T.take bs) ++ sortW (T.drop bs) ++ [] by rw [e1, List.append_nil, List.append_assoc]]
          (repeat' (first | (apply run_qg 1; (focus rfl); (focus exact wt); (focus rfl); (focus (exact qg1))) | (apply run_qg 4; (focus rfl); (focus exact wt); (focus rfl); (focus (first | exact qg4 | exact qs4))) | refine cod_seq ?_ | refine cod_region ?_ | refine run_nil ?_ | refine pst_then ?_ | (apply cod_cond_t; (focus rfl)) | (apply cod_cond_f; (focus rfl)) | refine cod_exit ?_ | refine pst_block_here ?_ | refine pst_then_exit ?_))
          rw [hab]
          refine run_os wt rfl (opr_call_l rfl SY rfl (Lp.out pka (Lp.view (KB_x kb) Lp.nil (view_kb pka)))) ?_
          rintro _ _ ⟨_, ⟨rfl, rfl⟩, rfl⟩
          dsimp only [List.cons_append, List.nil_append]
          rw [sortW_app, List.take_append_drop, List.append_nil, hfin]
          (repeat' (first | (apply run_qg 1; (focus rfl); (focus exact wt); (focus rfl); (focus (exact qg1))) | (apply run_qg 4; (focus rfl); (focus exact wt); (focus rfl); (focus (first | exact qg4 | exact qs4))) | refine cod_region ?_ | refine run_nil ?_ | refine pst_then ?_ | refine pst_block ?_))
          rw [h2b']
          refine pst_again ((2 * bs, (a : Int), ((2 * bs + a : Nat) : Int))) ?_ (FSub.of (by (try dsimp only); exact fsa)) (by (try dsimp only); exact hsa) ?_
          · dsimp only; omega
          · dsimp only; omega
        · rw [blk_small (l := T) (by omega), hfin]
          (repeat' (first | (apply run_qg 1; (focus rfl); (focus exact wt); (focus rfl); (focus (exact qg1))) | (apply run_qg 4; (focus rfl); (focus exact wt); (focus rfl); (focus (first | exact qg4 | exact qs4))) | refine cod_seq ?_ | refine cod_region ?_ | refine run_nil ?_ | refine pst_then ?_ | (apply cod_cond_f; (focus rfl)) | refine cod_exit ?_ | refine cod_skip ?_ | refine pst_block_here ?_ | refine pst_then_exit ?_ | refine pst_block ?_))
          rw [h2b']
          refine pst_again ((2 * bs, (a : Int), ((2 * bs + a : Nat) : Int))) ?_ (FSub.of (by (try dsimp only); exact fsa)) (by (try dsimp only); exact hsa) ?_
          · dsimp only; omega
          · dsimp only; omega
    · rw [blk_small (l := l) (by omega)]
      (repeat' (first | (apply run_qg 1; (focus rfl); (focus exact wt); (focus rfl); (focus (exact qg1))) | (apply run_qg 4; (focus rfl); (focus exact wt); (focus rfl); (focus (first | exact qg4 | exact qs4))) | refine cod_seq ?_ | refine cod_region ?_ | refine run_nil ?_ | refine pst_then ?_ | (apply cod_cond_f; (focus rfl)) | refine cod_exit ?_ | refine pst_block_here ?_ | refine pst_then_exit ?_))
      exact pst_fin_end rfl (by exact resa) _ (⟨rfl, rfl⟩) (by exact hsa)
set_option maxRecDepth 100000 in
set_option maxHeartbeats 8000000 in
theorem sort_any (q : Option Addr) (c kb : Nat) (l : List CV) (N : Nat) (hN : l.length = N) (hN0 : 0 < N) (hNb : N ≤ 1000000000) (hw : ∀ x ∈ l, 0 ≤ x.1 ∧ x.1 ≤ 1000000000000) :
    Ct Try.prog 20 [.slice q N c, cmpV kb] [own (.slice q N c) 44 2 N (flat fC l), KB kb]
      fun v H' => v = .tuple #[] ∧ H' = [own (.slice q N c) 44 2 N (flat fC (sortW l))] := by
  have ST := stable_any q c kb l N hN hN0 hNb hw
  (refine spec_enter Try.func20 Try.ntmps20 rfl rfl fun Fr => ?_; dsimp only [List.cons_append, List.nil_append, ini, Nat.reduceAdd])
  (repeat' (first | (apply run_qg 1; (focus rfl); (focus exact wt); (focus rfl); (focus (exact qg1))) | (apply run_qg 6; (focus rfl); (focus exact wt); (focus rfl); (focus (first | exact qs6 | exact qg6 | exact q_max rfl rfl rfl | exact q_sliceData rfl rfl (by omega) | exact q_sliceDataN rfl rfl | exact q_unsafeStringN rfl rfl rfl | exact q_cap_slice rfl rfl))) | refine cod_region ?_))
  refine run_os wt rfl (opr_call_l rfl ST rfl (Lp.out pka (Lp.view (KB_x kb) Lp.nil (view_kb pka)))) ?_
  rintro _ _ ⟨_, ⟨rfl, rfl⟩, rfl⟩
  dsimp only [List.cons_append, List.nil_append]
  (repeat' (first | refine run_nil ?_))
  exact pst_fin_end rfl (by exact resa) _ (⟨rfl, rfl⟩) (by exact hsa)
end Go.Proofs.Ytppnaofebkpbkaa.hsort
/-
  huff: coins and what they hold; check, pairs, merged: the walks.
-/
namespace Go.Proofs.Ytppnaofebkpbkaa.huff
open Go.RowKit kit sl Go.Proofs.Ytppnaofebkpbkaa.srt Go.Proofs.Ytppnaofebkpbkaa.hsort Go.Proofs.Ytppnaofebkpbkaa.pm
set_option linter.unusedVariables false
/-- a coin: its worth, its signs; where these lie -/
abbrev XC := Int × List Nat × Option Addr × Nat
def cvOf (x : XC) : CV := (x.1, x.2.2.1, x.2.1.length, x.2.2.2)
def fX (x : XC) : List Value := [.int .i64 x.1, .slice x.2.2.1 x.2.1.length x.2.2.2]
theorem one_fX (x : XC) : ∀ u ∈ fX x, u.oneCell' = true := by simp [fX, Value.oneCell']
def stp (x : XC) : Coin := (x.1, x.2.1)
def sI (x : XC) : List Int := x.2.1.map fun n : Nat => (n : Int)
def slV (x : XC) : Value := .slice x.2.2.1 x.2.1.length x.2.2.2
def rowI (x : XC) : Ent := own (slV x) 3 1 x.2.1.length (flat fI (sI x))
def lotI (x : XC) : Value × List (List Value) := (slV x, (sI x).map fI)
theorem rowI_x (x : XC) : (rowI x).excl = true := rfl
instance {x : XC} {L : List Ent} [hl : XL L] : XL (rowI x :: L) := ⟨fun g hg => by
  rcases List.mem_cons.1 hg with rfl | hg
  · rfl
  · exact hl.h g hg⟩
instance {l L : List Ent} [hl : XL L] : XL (bundle l :: L) := ⟨fun g hg => by
  rcases List.mem_cons.1 hg with rfl | hg
  · rfl
  · exact hl.h g hg⟩
theorem flat_fX (xs : List XC) : flat fC (xs.map cvOf) = flat fX xs := by
  unfold flat
  rw [List.map_map]
  rfl
instance : Key XC := ⟨fun x => x.1⟩
theorem ins_map (x : XC) : ∀ l : List XC, (ins x l).map cvOf = ins (cvOf x) (l.map cvOf)
  | [] => rfl
  | y :: l => by
    rw [ins, List.map_cons, ins]
    by_cases h : kf x ≤ kf y
    · rw [if_pos h, if_pos (show kf (cvOf x) ≤ kf (cvOf y) from h)]
      rfl
    · rw [if_neg h, if_neg (show ¬ kf (cvOf x) ≤ kf (cvOf y) from h), List.map_cons, ins_map x l]
theorem flat_two {α : Type} (f : α → List Value) (a b : List α) : flat f (a ++ b) = flat f a ++ flat f b := by
  unfold flat
  rw [List.map_append, List.flatten_append]
theorem sort_map : ∀ l : List XC, (sortW l).map cvOf = sortW (l.map cvOf)
  | [] => rfl
  | x :: l => by rw [sortW, ins_map, sort_map l]; rfl
/-- merged, with what lies where -/
def mgX (x : XC) (a : List XC) (r : List XC → List XC) : List XC → List XC
  | [] => x :: a
  | y :: b => if x.1 ≤ y.1 then x :: r (y :: b) else y :: mgX x a r b
def mrg : List XC → List XC → List XC
  | [], b => b
  | x :: a, b => mgX x a (mrg a) b
theorem mrg_nil (a : List XC) : mrg a [] = a := by cases a <;> rfl
theorem mrg_le {x y : XC} {a b : List XC} (h : x.1 ≤ y.1) : mrg (x :: a) (y :: b) = x :: mrg a (y :: b) := if_pos h
theorem mrg_gt {x y : XC} {a b : List XC} (h : ¬ x.1 ≤ y.1) : mrg (x :: a) (y :: b) = y :: mrg (x :: a) b := if_neg h
theorem mrg_stp : ∀ a b : List XC, (mrg a b).map stp = merged (a.map stp) (b.map stp) := by
  intro a
  induction a with
  | nil => intro b; rfl
  | cons x a iha =>
    intro b
    induction b with
    | nil => rw [mrg_nil, List.map_nil, merged_nil]
    | cons y b ihb =>
      by_cases h : x.1 ≤ y.1
      · rw [mrg_le h, List.map_cons, List.map_cons, List.map_cons, merged_le (x := stp x) (y := stp y) h, iha]
        rfl
      · rw [mrg_gt h, List.map_cons, List.map_cons, List.map_cons, merged_gt (x := stp x) (y := stp y) h, ihb]
        rfl
theorem mrg_mem : ∀ {a b : List XC} {z : XC}, z ∈ mrg a b ↔ z ∈ a ∨ z ∈ b := by
  intro a
  induction a with
  | nil => intro b z; simp [mrg]
  | cons x a iha =>
    intro b
    induction b with
    | nil => intro z; rw [mrg_nil]; simp
    | cons y b ihb =>
      intro z
      by_cases h : x.1 ≤ y.1
      · rw [mrg_le h, List.mem_cons, iha, List.mem_cons, List.mem_cons]
        constructor
        · rintro (h | h | h | h)
          · exact .inl (.inl h)
          · exact .inl (.inr h)
          · exact .inr (.inl h)
          · exact .inr (.inr h)
        · rintro ((h | h) | h | h)
          · exact .inl h
          · exact .inr (.inl h)
          · exact .inr (.inr (.inl h))
          · exact .inr (.inr (.inr h))
      · rw [mrg_gt h, List.mem_cons, ihb, List.mem_cons, List.mem_cons]
        constructor
        · rintro (h | (h | h) | h)
          · exact .inr (.inl h)
          · exact .inl (.inl h)
          · exact .inl (.inr h)
          · exact .inr (.inr h)
        · rintro ((h | h) | h | h)
          · exact .inr (.inl (.inl h))
          · exact .inr (.inl (.inr h))
          · exact .inl h
          · exact .inr (.inr h)
theorem mrg_len (a b : List XC) : (mrg a b).length = a.length + b.length := by
  have h := congrArg List.length (mrg_stp a b)
  rw [List.length_map, merged_len, List.length_map, List.length_map] at h
  exact h
def checkF (F : List Int) : Int := if 320 < F.length then 2 else
  match F with
  | [] => 0
  | _ => F.foldr (fun f e => if f < 0 then 1 else if 1048576 < f then 2 else e) 0
def GoodF (F : List Int) : Prop := F.length ≤ 320 ∧ ∀ f ∈ F, 0 ≤ f ∧ f ≤ 1048576
def badE : List Int → Int
  | [] => 0
  | f :: F => if f < 0 then 1 else if 1048576 < f then 2 else badE F
def chkE (F : List Int) : Int := if 320 < F.length then 2 else badE F
theorem badE_next {F : List Int} {k : Nat} {f : Int} (hf : F[k]? = some f) (h0 : 0 ≤ f) (h1 : f ≤ 1048576) : badE (F.drop k) = badE (F.drop (k + 1)) := by
  obtain ⟨h2, h3⟩ := List.getElem?_eq_some_iff.1 hf
  rw [List.drop_eq_getElem_cons h2, h3, badE, if_neg (by omega), if_neg (by omega)]
theorem badE_at {F : List Int} {k : Nat} {f : Int} (hf : F[k]? = some f) : badE (F.drop k) = if f < 0 then 1 else if 1048576 < f then 2 else badE (F.drop (k + 1)) := by
  obtain ⟨h2, h3⟩ := List.getElem?_eq_some_iff.1 hf
  rw [List.drop_eq_getElem_cons h2, h3, badE]
theorem badE_zero : ∀ {F : List Int}, badE F = 0 ↔ ∀ f ∈ F, 0 ≤ f ∧ f ≤ 1048576
  | [] => by simp [badE]
  | f :: F => by
    rw [badE]
    split
    · constructor
      · intro h; cases h
      · intro h; have := h f List.mem_cons_self; omega
    · split
      · constructor
        · intro h; cases h
        · intro h; have := h f List.mem_cons_self; omega
      · rw [badE_zero]
        constructor
        · intro h x hx
          rcases List.mem_cons.1 hx with rfl | hx
          · omega
          · exact h x hx
        · exact fun h x hx => h x (List.mem_cons_of_mem _ hx)
theorem chk_zero {F : List Int} : chkE F = 0 ↔ GoodF F := by
  unfold chkE GoodF
  split
  · constructor
    · intro h; cases h
    · intro h; omega
  · rw [badE_zero]
    exact ⟨fun h => ⟨by omega, h⟩, fun h => h.2⟩
attribute [local irreducible] box own sl old bptr eptr Qt Opr Run Cod Pst Drn
set_option maxRecDepth 100000 in
set_option maxHeartbeats 8000000 in
theorem check_any (q : Option Addr) (c : Nat) (F : List Int) (hl : F.length ≤ 1000000000000000) :
    Ct Try.prog 19 [.slice q F.length c] [sl 1 (.slice q F.length c) (F.map fI)] fun v H' => v = .int .i64 (chkE F) ∧ H' = [] := by
  by_cases h : 320 < F.length
  · have e : chkE F = 2 := by unfold chkE; rw [if_pos h]
    rw [e]
    (refine spec_enter Try.func19 Try.ntmps19 rfl rfl fun Fr => ?_; dsimp only [List.cons_append, List.nil_append, ini, Nat.reduceAdd])
    (repeat' (first | (apply run_qg 1; (focus rfl); (focus exact wt); (focus rfl); (focus (exact qg1))) | (apply run_qg 4; (focus rfl); (focus exact wt); (focus rfl); (focus (first | exact qg4 | exact qs4))) | (apply run_qg 6; (focus rfl); (focus exact wt); (focus rfl); (focus (first | exact qs6 | exact qg6 | exact q_max rfl rfl rfl | exact q_sliceData rfl rfl (by omega) | exact q_sliceDataN rfl rfl | exact q_unsafeStringN rfl rfl rfl | exact q_cap_slice rfl rfl))) | refine cod_seq ?_ | refine cod_region ?_ | refine run_nil ?_ | refine pst_then ?_ | (apply cod_cond_t; (focus rfl)) | refine cod_ret ?_ | refine pst_then_ret ?_))
    exact pst_fin rfl (by exact resa) _ (⟨rfl, rfl⟩) (by exact hsa)
  · have e : chkE F = badE F := by unfold chkE; rw [if_neg h]
    rw [e]
    (refine spec_enter Try.func19 Try.ntmps19 rfl rfl fun Fr => ?_; dsimp only [List.cons_append, List.nil_append, ini, Nat.reduceAdd])
    (repeat' (first | (apply run_qg 1; (focus rfl); (focus exact wt); (focus rfl); (focus (exact qg1))) | (apply run_qg 4; (focus rfl); (focus exact wt); (focus rfl); (focus (first | exact qg4 | exact qs4))) | (apply run_qg 6; (focus rfl); (focus exact wt); (focus rfl); (focus (first | exact qs6 | exact qg6 | exact q_max rfl rfl rfl | exact q_sliceData rfl rfl (by omega) | exact q_sliceDataN rfl rfl | exact q_unsafeStringN rfl rfl rfl | exact q_cap_slice rfl rfl))) | refine cod_seq ?_ | refine cod_region ?_ | refine run_nil ?_ | refine pst_then ?_ | (apply cod_cond_f; (focus rfl)) | refine cod_block ?_ | refine cod_skip ?_))
    (refine cod_loop_ro (σ := Nat) (fun k => k ≤ F.length ∧ badE F = badE (F.drop k)) (fun k => [(10, .int .i64 (k : Int))]) (fun k => F.length - k) (0) (by exact ⟨Nat.zero_le _, rfl⟩) (by exact fsa) (fun k ⟨hk, hb⟩ => ?_); dsimp only [List.cons_append, List.nil_append])
    rcases get_or F k with ⟨f, hf, hlt⟩ | hge
    · have h1 := badE_at hf
      rw [← hb] at h1
      rcases Int.lt_or_le f 0 with g | g
      · rw [if_pos g] at h1
        (repeat' (first | (apply run_qg 1; (focus rfl); (focus exact wt); (focus rfl); (focus (exact qg1))) | (apply run_qg 2; (focus rfl); (focus exact wt); (focus rfl); (focus (first | exact qg2 | exact qs2))) | (apply run_qg 3; (focus rfl); (focus exact wt); (focus rfl); (focus (first | exact qg3 | exact qs3))) | (apply run_qg 4; (focus rfl); (focus exact wt); (focus rfl); (focus (first | exact qg4 | exact qs4))) | refine cod_seq ?_ | refine cod_region ?_ | refine run_nil ?_ | refine pst_then ?_ | (apply cod_cond_t; (focus rfl)) | refine cod_block ?_ | refine cod_ret ?_ | refine cod_skip ?_ | refine pst_block_ret ?_ | refine pst_then_ret ?_))
        exact pst_fin rfl (by exact resa) _ (⟨by rw [h1], rfl⟩) (by exact hsa)
      · rw [if_neg (by omega)] at h1
        rcases Int.lt_or_le 1048576 f with g2 | g2
        · rw [if_pos g2] at h1
          (repeat' (first | (apply run_qg 1; (focus rfl); (focus exact wt); (focus rfl); (focus (exact qg1))) | (apply run_qg 2; (focus rfl); (focus exact wt); (focus rfl); (focus (first | exact qg2 | exact qs2))) | (apply run_qg 3; (focus rfl); (focus exact wt); (focus rfl); (focus (first | exact qg3 | exact qs3))) | (apply run_qg 4; (focus rfl); (focus exact wt); (focus rfl); (focus (first | exact qg4 | exact qs4))) | refine cod_seq ?_ | refine cod_region ?_ | refine run_nil ?_ | refine pst_then ?_ | (apply cod_cond_t; (focus rfl)) | (apply cod_cond_f; (focus rfl)) | refine cod_block ?_ | refine cod_ret ?_ | refine cod_skip ?_ | refine pst_block_ret ?_ | refine pst_then_ret ?_))
          exact pst_fin rfl (by exact resa) _ (⟨by rw [h1], rfl⟩) (by exact hsa)
        · rw [if_neg (by omega)] at h1
          (repeat' (first | (apply run_qg 1; (focus rfl); (focus exact wt); (focus rfl); (focus (exact qg1))) | (apply run_qg 2; (focus rfl); (focus exact wt); (focus rfl); (focus (first | exact qg2 | exact qs2))) | (apply run_qg 3; (focus rfl); (focus exact wt); (focus rfl); (focus (first | exact qg3 | exact qs3))) | (apply run_qg 4; (focus rfl); (focus exact wt); (focus rfl); (focus (first | exact qg4 | exact qs4))) | refine cod_seq ?_ | refine cod_region ?_ | refine run_nil ?_ | refine pst_then ?_ | (apply cod_cond_t; (focus rfl)) | (apply cod_cond_f; (focus rfl)) | refine cod_block ?_ | refine cod_skip ?_ | refine pst_block ?_))
          refine pst_again (k + 1) ?_ (FSub.of (by (try dsimp only); exact fsa)) (by (try dsimp only); exact hsa) ?_
          · exact ⟨hlt, h1⟩
          · omega
    · have h1 : badE F = 0 := by rw [hb, List.drop_of_length_le hge]; rfl
      (repeat' (first | (apply run_qg 1; (focus rfl); (focus exact wt); (focus rfl); (focus (exact qg1))) | (apply run_qg 4; (focus rfl); (focus exact wt); (focus rfl); (focus (first | exact qg4 | exact qs4))) | refine cod_seq ?_ | refine cod_region ?_ | refine run_nil ?_ | refine pst_then ?_ | (apply cod_cond_f; (focus rfl)) | refine cod_exit ?_ | refine cod_ret ?_ | refine pst_block_here ?_ | refine pst_then_exit ?_))
      exact pst_fin rfl (by exact resa) _ (⟨by rw [h1], rfl⟩) (by exact hsa)
set_option maxRecDepth 100000 in
set_option maxHeartbeats 8000000 in
theorem merged_any (qa qb : Option Addr) (ca cb : Nat) (X Y : List XC) (hX : X.length ≤ 1000000) (hY : Y.length ≤ 1000000) :
    Ct Try.prog 23 [.slice qa X.length ca, .slice qb Y.length cb] [sl 2 (.slice qa X.length ca) (X.map fX), sl 2 (.slice qb Y.length cb) (Y.map fX)]
      fun v H' => ∃ q c, v = .slice q (mrg X Y).length c ∧ H' = [own (.slice q (mrg X Y).length c) 44 2 (mrg X Y).length (flat fX (mrg X Y))] := by
  have hone := one_fX
  (refine spec_enter Try.func23 Try.ntmps23 rfl rfl fun Fr => ?_; dsimp only [List.cons_append, List.nil_append, ini, Nat.reduceAdd])
  (repeat' (first | (apply run_qg 1; (focus rfl); (focus exact wt); (focus rfl); (focus (exact qg1))) | refine cod_seq ?_ | refine cod_region ?_ | refine run_nil ?_ | refine pst_then ?_ | refine cod_block ?_))
  refine cod_heap (heap_nil _ 44 2) ?_
  (refine cod_loop_rw (σ := List XC × Option Addr × Nat × List XC × Option Addr × Nat × List XC × Option Addr × Nat) (fun s => (mrg X Y = s.2.2.2.2.2.2.1 ++ mrg s.1 s.2.2.2.1) ∧ (s.1.length ≤ 1000000 ∧ s.2.2.2.1.length ≤ 1000000)) (fun s => [(0, .slice s.2.1 s.1.length s.2.2.1), (1, .slice s.2.2.2.2.1 s.2.2.2.1.length s.2.2.2.2.2.1), (5, .slice s.2.2.2.2.2.2.2.1 s.2.2.2.2.2.2.1.length s.2.2.2.2.2.2.2.2)]) (fun s => [own (.slice s.2.2.2.2.2.2.2.1 s.2.2.2.2.2.2.1.length s.2.2.2.2.2.2.2.2) 44 2 s.2.2.2.2.2.2.1.length (flat fX s.2.2.2.2.2.2.1), sl 2 (.slice s.2.1 s.1.length s.2.2.1) (s.1.map fX), sl 2 (.slice s.2.2.2.2.1 s.2.2.2.1.length s.2.2.2.2.2.1) (s.2.2.2.1.map fX)]) _ (fun s => s.1.length + s.2.2.2.1.length) ((X, qa, ca, Y, qb, cb, [], none, 0)) (by exact ⟨rfl, hX, hY⟩) (by exact fsa) (by (first | exact HSub.of_picks_rest (by exact pca))) (fun ⟨xs, q1, c1, ys, q2, c2, zs, q, c⟩ ⟨hI, hx, hy⟩ => ?_); dsimp only [List.cons_append, List.nil_append])
  dsimp only at hI hx hy
  have hzl : zs.length + xs.length + ys.length ≤ 2000000 := by
    have h1 := congrArg List.length hI
    rw [List.length_append, mrg_len, mrg_len] at h1
    omega
  rcases Nat.eq_zero_or_pos xs.length with h0 | h0
  · have hxn : xs = [] := List.eq_nil_of_length_eq_zero h0
    have hfin : mrg X Y = zs ++ xs ++ ys := by rw [hI, hxn, List.append_nil]; rfl
    rw [hfin]
    clear hI hfin hxn
    (repeat' (first | (apply run_qg 1; (focus rfl); (focus exact wt); (focus rfl); (focus (exact qg1))) | (apply run_qg 4; (focus rfl); (focus exact wt); (focus rfl); (focus (first | exact qg4 | exact qs4))) | (apply run_qg 6; (focus rfl); (focus exact wt); (focus rfl); (focus (first | exact qs6 | exact qg6 | exact q_max rfl rfl rfl | exact q_sliceData rfl rfl (by omega) | exact q_sliceDataN rfl rfl | exact q_unsafeStringN rfl rfl rfl | exact q_cap_slice rfl rfl))) | refine cod_seq ?_ | refine cod_region ?_ | refine run_nil ?_ | refine pst_then ?_ | (apply cod_cond_f; (focus rfl)) | refine cod_exit ?_ | refine pst_block_here ?_ | refine pst_then_exit ?_ | (apply run_offs; (focus rfl); (focus rfl); (focus rfl))))
    (refine run_os wt rfl (opr_append (cnt := 0) (f := fX) (ys := xs) rfl rfl rfl pka pka (by intro _; rfl) one_fX rfl (by omega) (by unfold maxLen; omega)) ?_; rintro _ _ ⟨q3, c3, rfl, rfl⟩)
    (repeat' (first | (apply run_qg 1; (focus rfl); (focus exact wt); (focus rfl); (focus (exact qg1)))))
    (refine run_os wt rfl (opr_append (cnt := 0) (f := fX) (ys := ys) rfl rfl rfl pka pka (by intro _; rfl) one_fX rfl (by omega) (by unfold maxLen; omega)) ?_; rintro _ _ ⟨q4, c4, rfl, rfl⟩)
    rw [← flat_two, ← flat_two, ← List.length_append, ← List.length_append]
    (repeat' (first | (apply run_qg 1; (focus rfl); (focus exact wt); (focus rfl); (focus (exact qg1))) | refine run_nil ?_ | refine pst_then ?_ | refine cod_ret ?_))
    exact pst_fin rfl (by exact resa) _ (⟨_, _, rfl, rfl⟩) (by exact hsa)
  · rcases Nat.eq_zero_or_pos ys.length with g0 | g0
    · have hyn : ys = [] := List.eq_nil_of_length_eq_zero g0
      have hfin : mrg X Y = zs ++ xs ++ ys := by rw [hI, hyn, List.append_nil, mrg_nil]
      rw [hfin]
      clear hI hfin hyn
      (repeat' (first | (apply run_qg 1; (focus rfl); (focus exact wt); (focus rfl); (focus (exact qg1))) | (apply run_qg 4; (focus rfl); (focus exact wt); (focus rfl); (focus (first | exact qg4 | exact qs4))) | (apply run_qg 6; (focus rfl); (focus exact wt); (focus rfl); (focus (first | exact qs6 | exact qg6 | exact q_max rfl rfl rfl | exact q_sliceData rfl rfl (by omega) | exact q_sliceDataN rfl rfl | exact q_unsafeStringN rfl rfl rfl | exact q_cap_slice rfl rfl))) | refine cod_seq ?_ | refine cod_region ?_ | refine run_nil ?_ | refine pst_then ?_ | (apply cod_cond_f; (focus rfl)) | refine cod_exit ?_ | refine pst_block_here ?_ | refine pst_then_exit ?_))
      (refine run_os wt rfl (opr_append (cnt := 0) (f := fX) (ys := xs) rfl rfl rfl pka pka (by intro _; rfl) one_fX rfl (by omega) (by unfold maxLen; omega)) ?_; rintro _ _ ⟨q3, c3, rfl, rfl⟩)
      (repeat' (first | (apply run_qg 1; (focus rfl); (focus exact wt); (focus rfl); (focus (exact qg1)))))
      (refine run_os wt rfl (opr_append (cnt := 0) (f := fX) (ys := ys) rfl rfl rfl pka pka (by intro _; rfl) one_fX rfl (by omega) (by unfold maxLen; omega)) ?_; rintro _ _ ⟨q4, c4, rfl, rfl⟩)
      rw [← flat_two, ← flat_two, ← List.length_append, ← List.length_append]
      (repeat' (first | (apply run_qg 1; (focus rfl); (focus exact wt); (focus rfl); (focus (exact qg1))) | refine run_nil ?_ | refine pst_then ?_ | refine cod_ret ?_))
      exact pst_fin rfl (by exact resa) _ (⟨_, _, rfl, rfl⟩) (by exact hsa)
    · obtain ⟨x, hx0⟩ : ∃ x, xs[0]? = some x := ⟨_, List.getElem?_eq_getElem h0⟩
      obtain ⟨y, hy0⟩ : ∃ y, ys[0]? = some y := ⟨_, List.getElem?_eq_getElem g0⟩
      have ex : xs = x :: xs.drop 1 := by
        cases xs with
        | nil => cases hx0
        | cons a l => cases hx0; rfl
      have ey : ys = y :: ys.drop 1 := by
        cases ys with
        | nil => cases hy0
        | cons a l => cases hy0; rfl
      have dx : (xs.drop 1).length = xs.length - 1 := List.length_drop
      have dy : (ys.drop 1).length = ys.length - 1 := List.length_drop
      by_cases hxy : x.1 ≤ y.1
      · have hN : mrg X Y = (zs ++ [x]) ++ mrg (xs.drop 1) ys := by
          rw [hI, ex, ey, mrg_le hxy, ← ey, List.append_assoc]
          rfl
        clear hI ex ey
        (repeat' (first | (apply run_qg 1; (focus rfl); (focus exact wt); (focus rfl); (focus (exact qg1))) | (apply run_qg 4; (focus rfl); (focus exact wt); (focus rfl); (focus (first | exact qg4 | exact qs4))) | (apply run_qg 6; (focus rfl); (focus exact wt); (focus rfl); (focus (first | exact qs6 | exact qg6 | exact q_max rfl rfl rfl | exact q_sliceData rfl rfl (by omega) | exact q_sliceDataN rfl rfl | exact q_unsafeStringN rfl rfl rfl | exact q_cap_slice rfl rfl))) | refine cod_seq ?_ | refine cod_region ?_ | refine run_nil ?_ | refine pst_then ?_ | (apply cod_cond_t; (focus rfl)) | refine cod_block ?_ | refine cod_skip ?_))
        (refine cod_drawn_ks (Hq := [_, _]) [1, 2] [] rfl (by kernel_rfl) (by simp only [List.length_cons, List.length_nil, Nat.reduceAdd]; rfl) ?_)
        (repeat' (first | refine pst_then ?_ | (apply cod_cond_t; (focus rfl)) | (apply drnK_take 1; (focus rfl); (focus rfl); (focus exact wt); (focus (decide +kernel)); (focus exact hsq); (focus rfl); (focus (exact qg1))) | (apply drnK_take 2; (focus rfl); (focus rfl); (focus exact wt); (focus (decide +kernel)); (focus exact hsq); (focus rfl); (focus (first | exact qg2 | exact qs2))) | (apply drnK_take 3; (focus rfl); (focus rfl); (focus exact wt); (focus (decide +kernel)); (focus exact hsq); (focus rfl); (focus (first | exact qg3 | exact qs3))) | (apply drnK_take 4; (focus rfl); (focus rfl); (focus exact wt); (focus (decide +kernel)); (focus exact hsq); (focus rfl); (focus (first | exact qg4 | exact qs4))) | (apply drnK_end; (focus (decide +kernel)))))
        (refine cod_drawn_ks (Hq := [_, _]) [1, 2] [] rfl (by kernel_rfl) (by simp only [List.length_cons, List.length_nil, Nat.reduceAdd]; rfl) ?_)
        (repeat' (first | (apply drnK_take 1; (focus rfl); (focus rfl); (focus exact wt); (focus (decide +kernel)); (focus exact hsq); (focus rfl); (focus (exact qg1))) | (apply drnK_take 2; (focus rfl); (focus rfl); (focus exact wt); (focus (decide +kernel)); (focus exact hsq); (focus rfl); (focus (first | exact qg2 | exact qs2))) | (apply drnK_take 3; (focus rfl); (focus rfl); (focus exact wt); (focus (decide +kernel)); (focus exact hsq); (focus rfl); (focus (first | exact qg3 | exact qs3))) | (apply drnK_done; (focus (decide +kernel))) | (apply drnK_skip; (focus rfl)) | (apply drnK_wrap; (focus rfl))))
        (refine drnK_at 7 ?_; refine drnK_take _ rfl rfl wt (by decide +kernel) hsq rfl (q_slice_l (i := 1) rfl rfl rfl rfl (by omega)) ?_)
        (refine drnK_at 4 ?_; (first | refine drnK_ones _ (by rfl) (by rfl) (by kernel_rfl) wt (by rfl) (by exact opr_buildSlice rfl rfl rfl (by exact blda) rfl rfl (by decide) rfl) ?_ | refine drnK_onen _ (by rfl) (by rfl) (by kernel_rfl) wt (by exact opr_buildSlice rfl rfl rfl (by exact blda) rfl rfl (by decide) rfl) ?_); rintro _ _ ⟨q3, rfl, rfl⟩; refine ⟨(by first | exact fun h => absurd h (by decide) | exact fun _ => hsq), ?_⟩; (try dsimp only [List.cons_append, List.nil_append]))
        (refine drnK_at 5 ?_; (first | refine drnK_ones _ (by rfl) (by rfl) (by kernel_rfl) wt (by rfl) (by exact (by first | exact opr_append_lit0 (fX) [x] rfl rfl rfl (by exact pka) (by rfl) (by rfl) (by intro _; rfl) (by (first | exact one_fS | exact one_fI | exact one_fB | exact one_fP | exact one_fIIS | exact one_fIIIS | exact one_fII | exact one_fSI | exact one_fIIU | exact one_fY | exact one_fBl | exact one_fT | exact one_fE | assumption)) rfl (by simp only [List.length_cons, List.length_nil]; omega) (by (unfold maxLen); simp only [List.length_cons, List.length_nil]; omega) | exact opr_append_lit (fX) [x] rfl rfl rfl (by exact pka) (by exact pka) (by rfl) (by rfl) (by first | rfl | omega) (by intro _; rfl) (by (first | exact one_fS | exact one_fI | exact one_fB | exact one_fP | exact one_fIIS | exact one_fIIIS | exact one_fII | exact one_fSI | exact one_fIIU | exact one_fY | exact one_fBl | exact one_fT | exact one_fE | assumption)) rfl (by simp only [List.length_cons, List.length_nil]; omega) (by (unfold maxLen); simp only [List.length_cons, List.length_nil]; omega))) ?_ | refine drnK_onen _ (by rfl) (by rfl) (by kernel_rfl) wt (by exact (by first | exact opr_append_lit0 (fX) [x] rfl rfl rfl (by exact pka) (by rfl) (by rfl) (by intro _; rfl) (by (first | exact one_fS | exact one_fI | exact one_fB | exact one_fP | exact one_fIIS | exact one_fIIIS | exact one_fII | exact one_fSI | exact one_fIIU | exact one_fY | exact one_fBl | exact one_fT | exact one_fE | assumption)) rfl (by simp only [List.length_cons, List.length_nil]; omega) (by (unfold maxLen); simp only [List.length_cons, List.length_nil]; omega) | exact opr_append_lit (fX) [x] rfl rfl rfl (by exact pka) (by exact pka) (by rfl) (by rfl) (by first | rfl | omega) (by intro _; rfl) (by (first | exact one_fS | exact one_fI | exact one_fB | exact one_fP | exact one_fIIS | exact one_fIIIS | exact one_fII | exact one_fSI | exact one_fIIU | exact one_fY | exact one_fBl | exact one_fT | exact one_fE | assumption)) rfl (by simp only [List.length_cons, List.length_nil]; omega) (by (unfold maxLen); simp only [List.length_cons, List.length_nil]; omega))) ?_); rintro _ _ ⟨q4, c4, rfl, rfl⟩; refine ⟨(by first | exact fun h => absurd h (by decide) | exact fun _ => hsq), ?_⟩; (try dsimp only [List.cons_append, List.nil_append]))
        (repeat' (first | refine pst_block ?_ | (apply drnK_take 1; (focus rfl); (focus rfl); (focus exact wt); (focus (decide +kernel)); (focus exact hsq); (focus rfl); (focus (exact qg1))) | (apply drnK_end; (focus (decide +kernel))) | (apply drnK_done; (focus (decide +kernel)))))
        refine pst_weak (FSub.refl _) (sl_from (i := 1) (q := q1) (N := xs.length) (xs := xs) pka rfl (by omega)) ?_
        rw [← dx]
        refine pst_again ((xs.drop 1, subq q1 1 c1 2, c1 - 1, ys, q2, c2, zs ++ [x], q4, c4)) ?_ (FSub.of (by (try dsimp only); exact fsa)) (by (try dsimp only); exact hsa) ?_
        · exact ⟨hN, by dsimp only; omega, hy⟩
        · dsimp only; omega
      · have hN : mrg X Y = (zs ++ [y]) ++ mrg xs (ys.drop 1) := by
          rw [hI, ex, ey, mrg_gt hxy, ← ex, List.append_assoc]
          rfl
        clear hI ex ey
        (repeat' (first | (apply run_qg 1; (focus rfl); (focus exact wt); (focus rfl); (focus (exact qg1))) | (apply run_qg 4; (focus rfl); (focus exact wt); (focus rfl); (focus (first | exact qg4 | exact qs4))) | (apply run_qg 6; (focus rfl); (focus exact wt); (focus rfl); (focus (first | exact qs6 | exact qg6 | exact q_max rfl rfl rfl | exact q_sliceData rfl rfl (by omega) | exact q_sliceDataN rfl rfl | exact q_unsafeStringN rfl rfl rfl | exact q_cap_slice rfl rfl))) | refine cod_seq ?_ | refine cod_region ?_ | refine run_nil ?_ | refine pst_then ?_ | (apply cod_cond_t; (focus rfl)) | refine cod_block ?_ | refine cod_skip ?_))
        (refine cod_drawn_ks (Hq := [_, _]) [1, 2] [] rfl (by kernel_rfl) (by simp only [List.length_cons, List.length_nil, Nat.reduceAdd]; rfl) ?_)
        (repeat' (first | refine pst_then ?_ | (apply cod_cond_f; (focus rfl)) | (apply drnK_take 1; (focus rfl); (focus rfl); (focus exact wt); (focus (decide +kernel)); (focus exact hsq); (focus rfl); (focus (exact qg1))) | (apply drnK_take 2; (focus rfl); (focus rfl); (focus exact wt); (focus (decide +kernel)); (focus exact hsq); (focus rfl); (focus (first | exact qg2 | exact qs2))) | (apply drnK_take 3; (focus rfl); (focus rfl); (focus exact wt); (focus (decide +kernel)); (focus exact hsq); (focus rfl); (focus (first | exact qg3 | exact qs3))) | (apply drnK_take 4; (focus rfl); (focus rfl); (focus exact wt); (focus (decide +kernel)); (focus exact hsq); (focus rfl); (focus (first | exact qg4 | exact qs4))) | (apply drnK_end; (focus (decide +kernel)))))
        (refine cod_drawn_ks (Hq := [_, _]) [1, 2] [] rfl (by kernel_rfl) (by simp only [List.length_cons, List.length_nil, Nat.reduceAdd]; rfl) ?_)
        (repeat' (first | (apply drnK_take 1; (focus rfl); (focus rfl); (focus exact wt); (focus (decide +kernel)); (focus exact hsq); (focus rfl); (focus (exact qg1))) | (apply drnK_take 2; (focus rfl); (focus rfl); (focus exact wt); (focus (decide +kernel)); (focus exact hsq); (focus rfl); (focus (first | exact qg2 | exact qs2))) | (apply drnK_take 3; (focus rfl); (focus rfl); (focus exact wt); (focus (decide +kernel)); (focus exact hsq); (focus rfl); (focus (first | exact qg3 | exact qs3))) | (apply drnK_done; (focus (decide +kernel))) | (apply drnK_skip; (focus rfl)) | (apply drnK_wrap; (focus rfl))))
        (refine drnK_at 7 ?_; refine drnK_take _ rfl rfl wt (by decide +kernel) hsq rfl (q_slice_l (i := 1) rfl rfl rfl rfl (by omega)) ?_)
        (refine drnK_at 4 ?_; (first | refine drnK_ones _ (by rfl) (by rfl) (by kernel_rfl) wt (by rfl) (by exact opr_buildSlice rfl rfl rfl (by exact blda) rfl rfl (by decide) rfl) ?_ | refine drnK_onen _ (by rfl) (by rfl) (by kernel_rfl) wt (by exact opr_buildSlice rfl rfl rfl (by exact blda) rfl rfl (by decide) rfl) ?_); rintro _ _ ⟨q3, rfl, rfl⟩; refine ⟨(by first | exact fun h => absurd h (by decide) | exact fun _ => hsq), ?_⟩; (try dsimp only [List.cons_append, List.nil_append]))
        (refine drnK_at 5 ?_; (first | refine drnK_ones _ (by rfl) (by rfl) (by kernel_rfl) wt (by rfl) (by exact (by first | exact opr_append_lit0 (fX) [y] rfl rfl rfl (by exact pka) (by rfl) (by rfl) (by intro _; rfl) (by (first | exact one_fS | exact one_fI | exact one_fB | exact one_fP | exact one_fIIS | exact one_fIIIS | exact one_fII | exact one_fSI | exact one_fIIU | exact one_fY | exact one_fBl | exact one_fT | exact one_fE | assumption)) rfl (by simp only [List.length_cons, List.length_nil]; omega) (by (unfold maxLen); simp only [List.length_cons, List.length_nil]; omega) | exact opr_append_lit (fX) [y] rfl rfl rfl (by exact pka) (by exact pka) (by rfl) (by rfl) (by first | rfl | omega) (by intro _; rfl) (by (first | exact one_fS | exact one_fI | exact one_fB | exact one_fP | exact one_fIIS | exact one_fIIIS | exact one_fII | exact one_fSI | exact one_fIIU | exact one_fY | exact one_fBl | exact one_fT | exact one_fE | assumption)) rfl (by simp only [List.length_cons, List.length_nil]; omega) (by (unfold maxLen); simp only [List.length_cons, List.length_nil]; omega))) ?_ | refine drnK_onen _ (by rfl) (by rfl) (by kernel_rfl) wt (by exact (by first | exact opr_append_lit0 (fX) [y] rfl rfl rfl (by exact pka) (by rfl) (by rfl) (by intro _; rfl) (by (first | exact one_fS | exact one_fI | exact one_fB | exact one_fP | exact one_fIIS | exact one_fIIIS | exact one_fII | exact one_fSI | exact one_fIIU | exact one_fY | exact one_fBl | exact one_fT | exact one_fE | assumption)) rfl (by simp only [List.length_cons, List.length_nil]; omega) (by (unfold maxLen); simp only [List.length_cons, List.length_nil]; omega) | exact opr_append_lit (fX) [y] rfl rfl rfl (by exact pka) (by exact pka) (by rfl) (by rfl) (by first | rfl | omega) (by intro _; rfl) (by (first | exact one_fS | exact one_fI | exact one_fB | exact one_fP | exact one_fIIS | exact one_fIIIS | exact one_fII | exact one_fSI | exact one_fIIU | exact one_fY | exact one_fBl | exact one_fT | exact one_fE | assumption)) rfl (by simp only [List.length_cons, List.length_nil]; omega) (by (unfold maxLen); simp only [List.length_cons, List.length_nil]; omega))) ?_); rintro _ _ ⟨q4, c4, rfl, rfl⟩; refine ⟨(by first | exact fun h => absurd h (by decide) | exact fun _ => hsq), ?_⟩; (try dsimp only [List.cons_append, List.nil_append]))
        (repeat' (first | refine pst_block ?_ | (apply drnK_take 1; (focus rfl); (focus rfl); (focus exact wt); (focus (decide +kernel)); (focus exact hsq); (focus rfl); (focus (exact qg1))) | (apply drnK_end; (focus (decide +kernel))) | (apply drnK_done; (focus (decide +kernel)))))
        refine pst_weak (FSub.refl _) (sl_from (i := 1) (q := q2) (N := ys.length) (xs := ys) pka rfl (by omega)) ?_
        rw [← dy]
        refine pst_again ((xs, q1, c1, ys.drop 1, subq q2 1 c2 2, c2 - 1, zs ++ [y], q4, c4)) ?_ (FSub.of (by (try dsimp only); exact fsa)) (by (try dsimp only); exact hsa) ?_
        · exact ⟨hN, hx, by dsimp only; omega⟩
        · dsimp only; omega
end Go.Proofs.Ytppnaofebkpbkaa.huff
