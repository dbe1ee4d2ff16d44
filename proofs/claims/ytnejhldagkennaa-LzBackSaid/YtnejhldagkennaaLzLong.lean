/-
  lz.longest: the longest copies at each place: the walk.
-/
import Derived.Test.YtnejhldagkennaaSlMapA
import Derived.Test.YtnejhldagkennaaTypes
import Derived.Test.YtnejhldagkennaaSlStr3
import Derived.Test.YtnejhldagkennaaSlIter
import Derived.Test.YtnejhldagkennaaLzLaw
namespace Go.Proofs.Ytnejhldagkennaa.lz
open Go.RowKit kit sl Go.WideMaps
set_option linter.unusedVariables false
set_option pp.maxSteps 20000
/-! ### rows of numbers -/
def rowN (n : Nat) (B : Nat → Nat) : List Int := (List.range n).map fun i => (B i : Int)
def upd1 (B : Nat → Nat) (i v : Nat) : Nat → Nat := fun j => if j = i then v else B j
theorem rowN_len (n : Nat) (B : Nat → Nat) : (rowN n B).length = n := by simp [rowN]
theorem rowN_at {n i : Nat} (B : Nat → Nat) (h : i < n) : (rowN n B)[i]? = some ((B i : Nat) : Int) := by
  unfold rowN
  rw [List.getElem?_map, List.getElem?_range h]
  rfl
theorem rowN_set {n i : Nat} (B : Nat → Nat) (v : Nat) (h : i < n) : (rowN n B).set i (v : Int) = rowN n (upd1 B i v) := by
  apply List.ext_getElem?
  intro j
  rw [List.getElem?_set]
  rcases Nat.lt_or_ge j n with hj | hj
  · rw [rowN_at _ hj, rowN_at _ hj]
    unfold upd1
    by_cases e : i = j
    · subst e
      rw [if_pos rfl, if_pos (by rw [rowN_len]; exact h), if_pos rfl]
    · rw [if_neg e, if_neg (fun h => e h.symm)]
  · rw [if_neg (by omega), List.getElem?_eq_none (by rw [rowN_len]; exact hj), List.getElem?_eq_none (by rw [rowN_len]; exact hj)]
theorem rowN_zero (n : Nat) : List.replicate n (0 : Int) = rowN n (fun _ => 0) := by
  apply List.ext_getElem?
  intro j
  rcases Nat.lt_or_ge j n with hj | hj
  · rw [rowN_at _ hj, List.getElem?_replicate, if_pos hj]; rfl
  · rw [List.getElem?_eq_none (by simpa using hj), List.getElem?_eq_none (by rw [rowN_len]; exact hj)]
theorem upd1_self (B : Nat → Nat) (i : Nat) : upd1 B i (B i) = B := by
  funext j
  unfold upd1
  split
  · rename_i h; rw [h]
  · rfl
theorem upd1_upd1 (B : Nat → Nat) (i v w : Nat) : upd1 (upd1 B i v) i w = upd1 B i w := by
  funext j
  unfold upd1
  split <;> rfl
theorem upd1_at (B : Nat → Nat) (i v : Nat) : upd1 B i v i = v := by unfold upd1; rw [if_pos rfl]
theorem upd1_ne (B : Nat → Nat) {i j : Nat} (v : Nat) (h : j ≠ i) : upd1 B i v j = B j := by unfold upd1; rw [if_neg h]
/-! ### the table of triples -/
abbrev Row3 := K3 × List Int × Option Addr × Nat
def rowE (r : Row3) : Ent := own (.slice r.2.2.1 r.2.1.length r.2.2.2) 3 1 r.2.1.length (flat fI r.2.1)
def slv (r : Row3) : Value := .slice r.2.2.1 r.2.1.length r.2.2.2
def look3 : List Row3 → K3 → Value
  | [], _ => .slice none 0 0
  | r :: tab, t => if t = r.1 then slv r else look3 tab t
def tabE (tab : List Row3) : Ent := bundle (tab.map rowE)
def tri (s : List UInt8) (k : Nat) (t : K3) : Prop := s[k]? = some t.1 ∧ s[k + 1]? = some t.2.1 ∧ s[k + 2]? = some t.2.2
theorem tri_one {s : List UInt8} {k : Nat} {t u : K3} (h : tri s k t) (g : tri s k u) : t = u := by
  obtain ⟨a, b, c⟩ := t
  obtain ⟨a', b', c'⟩ := u
  obtain ⟨h1, h2, h3⟩ := h
  obtain ⟨g1, g2, g3⟩ := g
  rw [h1] at g1; rw [h2] at g2; rw [h3] at g3
  simp only [Option.some.injEq] at g1 g2 g3
  rw [g1, g2, g3]
def PosOf (s : List UInt8) (i : Nat) (t : K3) (xs : List Int) : Prop := (∀ x ∈ xs, ∃ k : Nat, x = (k : Int) ∧ k < i ∧ tri s k t) ∧ (∀ k, k < i → tri s k t → (k : Int) ∈ xs) ∧ xs.length ≤ i
def TabOk (s : List UInt8) (i : Nat) (tab : List Row3) : Prop := tab.Pairwise (fun r u => r.1 ≠ u.1) ∧ (∀ r ∈ tab, PosOf s i r.1 r.2.1) ∧ ∀ k t, k < i → tri s k t → ∃ r ∈ tab, r.1 = t
theorem look3_not {tab : List Row3} {t : K3} (h : ∀ r ∈ tab, r.1 ≠ t) : look3 tab t = .slice none 0 0 := by
  induction tab with
  | nil => rfl
  | cons r tab ih => rw [look3, if_neg (fun e => h r List.mem_cons_self e.symm), ih fun r hr => h r (List.mem_cons_of_mem _ hr)]
theorem look3_mid {A B : List Row3} {r : Row3} (h : ∀ u ∈ A, u.1 ≠ r.1) : look3 (A ++ r :: B) r.1 = slv r := by
  induction A with
  | nil => rw [List.nil_append, look3, if_pos rfl]
  | cons u A ih => rw [List.cons_append, look3, if_neg (fun e => h u List.mem_cons_self e.symm), ih fun r hr => h r (List.mem_cons_of_mem _ hr)]
theorem look3_skip {A B : List Row3} {r : Row3} {t : K3} (h : t ≠ r.1) : look3 (A ++ r :: B) t = look3 (A ++ B) t := by
  induction A with
  | nil => rw [List.nil_append, look3, if_neg h, List.nil_append]
  | cons u A ih => rw [List.cons_append, List.cons_append, look3, look3, ih]
theorem pos_more {s : List UInt8} {i : Nat} {t u : K3} {xs : List Int} (hi : tri s i t) (hne : u ≠ t) (h : PosOf s i u xs) : PosOf s (i + 1) u xs := by
  obtain ⟨h1, h2, h3⟩ := h
  refine ⟨fun x hx => ?_, fun k hk hu => ?_, by omega⟩
  · obtain ⟨k, e1, e2, e3⟩ := h1 x hx
    exact ⟨k, e1, by omega, e3⟩
  · rcases Nat.lt_or_ge k i with h | h
    · exact h2 k h hu
    · obtain rfl : k = i := by omega
      exact absurd (tri_one hu hi) hne
theorem pos_add {s : List UInt8} {i : Nat} {t : K3} {xs : List Int} (hi : tri s i t) (h : PosOf s i t xs) : PosOf s (i + 1) t (xs ++ [(i : Int)]) := by
  obtain ⟨h1, h2, h3⟩ := h
  refine ⟨fun x hx => ?_, fun k hk hu => ?_, by simp; omega⟩
  · rcases List.mem_append.1 hx with hx | hx
    · obtain ⟨k, e1, e2, e3⟩ := h1 x hx
      exact ⟨k, e1, by omega, e3⟩
    · rw [List.mem_singleton.1 hx]
      exact ⟨i, rfl, by omega, hi⟩
  · rcases Nat.lt_or_ge k i with h | h
    · exact List.mem_append_left _ (h2 k h hu)
    · obtain rfl : k = i := by omega
      exact List.mem_append_right _ (List.mem_singleton.2 rfl)
/-- the row of one triple, laid open -/
theorem tab_open {s : List UInt8} {i : Nat} {tab : List Row3} {t : K3} (h : TabOk s i tab) (hi : tri s i t) :
    ∃ (xs : List Int) (q : Option Addr) (c : Nat) (rest : List Row3), look3 tab t = .slice q xs.length c ∧ (∀ {H R : List Ent}, Pick (tabE tab) H R → HSub H (own (.slice q xs.length c) 3 1 xs.length (flat fI xs) :: tabE rest :: R)) ∧ PosOf s i t xs ∧
      ∀ (ys : List Int) (q' : Option Addr) (c' : Nat), PosOf s (i + 1) t ys → TabOk s (i + 1) ((t, ys, q', c') :: rest) ∧ (fun j => if j = t then Value.slice q' ys.length c' else look3 tab j) = look3 ((t, ys, q', c') :: rest) := by
  obtain ⟨h1, h2, h3⟩ := h
  by_cases hex : ∃ r ∈ tab, r.1 = t
  · obtain ⟨r, hr, rfl⟩ := hex
    obtain ⟨A, B, rfl⟩ := List.append_of_mem hr
    have hpm : (A ++ r :: B).Perm (r :: (A ++ B)) := List.perm_middle
    have h1' : (r :: (A ++ B)).Pairwise (fun r u => r.1 ≠ u.1) := (hpm.pairwise_iff (fun {a b} (h : a.1 ≠ b.1) => h.symm)).1 h1
    have hp := List.pairwise_cons.1 h1'
    refine ⟨r.2.1, r.2.2.1, r.2.2.2, A ++ B, look3_mid (fun u hu => (hp.1 u (List.mem_append_left _ hu)).symm), fun {H R} p => bundle_out p ?_, h2 r hr, fun ys q' c' hys => ⟨⟨?_, ?_, ?_⟩, ?_⟩⟩
    · have := hpm.map rowE
      rw [List.map_cons] at this
      exact this
    · exact List.pairwise_cons.2 ⟨fun u hu => hp.1 u hu, hp.2⟩
    · intro u hu
      rcases List.mem_cons.1 hu with rfl | hu
      · exact hys
      · exact pos_more hi (fun e => hp.1 u hu e.symm) (h2 u (hpm.mem_iff.2 (List.mem_cons_of_mem _ hu)))
    · intro k u hk hu
      rcases Nat.lt_or_ge k i with hki | hki
      · obtain ⟨v, hv, e⟩ := h3 k u hki hu
        rcases List.mem_cons.1 (hpm.mem_iff.1 hv) with rfl | hv
        · exact ⟨_, List.mem_cons_self, e⟩
        · exact ⟨v, List.mem_cons_of_mem _ hv, e⟩
      · obtain rfl : k = i := by omega
        exact ⟨_, List.mem_cons_self, tri_one hi hu⟩
    · funext j
      rw [look3]
      dsimp only
      split
      · rfl
      · rename_i hne; exact look3_skip hne
  · have hn : ∀ r ∈ tab, r.1 ≠ t := fun r hr e => hex ⟨r, hr, e⟩
    refine ⟨[], none, 0, tab, look3_not hn, fun {H R} p => ?_, ⟨fun x hx => absurd hx List.not_mem_nil, fun k hk hu => ?_, Nat.zero_le _⟩, fun ys q' c' hys => ⟨⟨?_, ?_, ?_⟩, ?_⟩⟩
    · exact HSub.trans (hsub_perm p.perm) (heap_nil _ 3 1)
    · obtain ⟨r, hr, e⟩ := h3 k t hk hu
      exact absurd e (hn r hr)
    · exact List.pairwise_cons.2 ⟨fun u hu e => hn u hu e.symm, h1⟩
    · intro u hu
      rcases List.mem_cons.1 hu with rfl | hu
      · exact hys
      · exact pos_more hi (hn u hu) (h2 u hu)
    · intro k u hk hu
      rcases Nat.lt_or_ge k i with hki | hki
      · obtain ⟨v, hv, e⟩ := h3 k u hki hu
        exact ⟨v, List.mem_cons_of_mem _ hv, e⟩
      · obtain rfl : k = i := by omega
        exact ⟨_, List.mem_cons_self, tri_one hi hu⟩
    · funext j
      rw [look3]
      rfl
/-- at place i, after some of the places ahead that begin alike -/
def Part (s : List UInt8) (xs : List Int) (i idx n d : Nat) : Prop := (n = 0 ∨ (3 ≤ n ∧ n ≤ 66 ∧ i + n ≤ s.length ∧ 1 ≤ d ∧ d ≤ i ∧ mat s (i - d) i n)) ∧ ∀ k m : Nat, (k : Int) ∈ xs.take idx → 3 ≤ m → m ≤ 66 → i + m ≤ s.length → mat s k i m → m ≤ n
theorem part_nil (s : List UInt8) (xs : List Int) (i : Nat) : Part s xs i 0 0 0 := ⟨.inl rfl, fun k m h => by rw [List.take_zero] at h; exact absurd h List.not_mem_nil⟩
theorem part_all {s : List UInt8} {xs : List Int} {i n d : Nat} {t : K3} (hi : tri s i t) (hx : PosOf s i t xs) (h : Part s xs i xs.length n d) : LongAt s i n d := by
  refine ⟨h.1, fun k m hk h3 h66 hl hm => ?_⟩
  refine h.2 k m ?_ h3 h66 hl hm
  rw [List.take_length]
  refine hx.2.1 k hk ⟨?_, ?_, ?_⟩
  · have := hm 0 (by omega); simp only [Nat.add_zero] at this; rw [this]; exact hi.1
  · rw [hm 1 (by omega)]; exact hi.2.1
  · rw [hm 2 (by omega)]; exact hi.2.2
/-- how far two places go on alike -/
theorem part_next {s : List UInt8} {xs : List Int} {i idx n d k n2 : Nat} {t : K3} (hi : tri s i t) (hk : xs[idx]? = some (k : Int)) (hki : k < i) (hkt : tri s k t) (h : Part s xs i idx n d) (h3 : 3 ≤ n2) (h66 : n2 ≤ 66) (hl : i + n2 ≤ s.length) (hm : mat s k i n2)
    (hend : n2 = 66 ∨ i + n2 = s.length ∨ s[k + n2]? ≠ s[i + n2]?) :
    (n2 < n → Part s xs i (idx + 1) n d) ∧ (n ≤ n2 → Part s xs i (idx + 1) n2 (i - k)) := by
  have hmax : ∀ m, 3 ≤ m → m ≤ 66 → i + m ≤ s.length → mat s k i m → m ≤ n2 := fun m _ hm66 hml hmm => by
    rcases hend with h | h | h
    · omega
    · omega
    · rcases Nat.lt_or_ge n2 m with h9 | h9
      · exact absurd (hmm n2 h9) h
      · exact h9
  have htk : xs.take (idx + 1) = xs.take idx ++ [(k : Int)] := by
    rw [List.take_add_one, hk]; rfl
  refine ⟨fun hlt => ⟨h.1, fun k2 m hk2 => ?_⟩, fun hle => ⟨.inr ⟨h3, h66, hl, by omega, by omega, by rw [show i - (i - k) = k by omega]; exact hm⟩, fun k2 m hk2 a1 a2 a3 a4 => ?_⟩⟩
  · intro a1 a2 a3 a4
    rw [htk] at hk2
    rcases List.mem_append.1 hk2 with hk2 | hk2
    · exact h.2 k2 m hk2 a1 a2 a3 a4
    · have : k2 = k := by have := List.mem_singleton.1 hk2; omega
      subst this
      have := hmax m a1 a2 a3 a4
      omega
  · rw [htk] at hk2
    rcases List.mem_append.1 hk2 with hk2 | hk2
    · have := h.2 k2 m hk2 a1 a2 a3 a4; omega
    · have : k2 = k := by have := List.mem_singleton.1 hk2; omega
      subst this
      exact hmax m a1 a2 a3 a4
theorem mat_tri {s : List UInt8} {k i : Nat} {t : K3} (h : tri s k t) (g : tri s i t) : mat s k i 3 := by
  intro j hj
  rcases (by omega : j = 0 ∨ j = 1 ∨ j = 2) with rfl | rfl | rfl
  · show s[k]? = s[i]?; rw [h.1, g.1]
  · rw [h.2.1, g.2.1]
  · rw [h.2.2, g.2.2]
theorem mat_next {s : List UInt8} {k i n : Nat} (h : mat s k i n) (g : s[k + n]? = s[i + n]?) : mat s k i (n + 1) := by
  intro j hj
  rcases (by omega : j < n ∨ j = n) with h1 | rfl
  · exact h j h1
  · exact g
/-- before place i -/
def Longs (s : List UInt8) (L D : Nat → Nat) (i : Nat) : Prop := ∀ j, (j < i → LongAt s j (L j) (D j)) ∧ (i ≤ j → L j = 0 ∧ D j = 0)
theorem longs_next {s : List UInt8} {L D : Nat → Nat} {i n d : Nat} (h : Longs s L D i) (g : LongAt s i n d) : Longs s (upd1 L i n) (upd1 D i d) (i + 1) := by
  intro j
  by_cases e : j = i
  · subst e
    rw [upd1_at, upd1_at]
    exact ⟨fun _ => g, fun h => by omega⟩
  · rw [upd1_ne _ _ e, upd1_ne _ _ e]
    exact ⟨fun hj => (h j).1 (by omega), fun hj => (h j).2 (by omega)⟩
theorem longs_all {s : List UInt8} {L D : Nat → Nat} {i : Nat} (h : Longs s L D i) (hi : s.length < i + 3) : LongAll s L D := by
  intro j hj
  rcases Nat.lt_or_ge j i with h1 | h1
  · exact (h j).1 h1
  · obtain ⟨e1, e2⟩ := (h j).2 h1
    rw [e1, e2]
    exact ⟨.inl rfl, fun k m _ h3 _ hl _ => by omega⟩
theorem rowE_x (r : Row3) : (rowE r).excl = true := rfl
attribute [local irreducible] box own sl old bptr eptr Qt Opr Run Cod Pst Drn
instance : Key3 Try.prog 97 := ⟨⟨5, ⟨by kernel_rfl, by kernel_rfl, by kernel_rfl, by kernel_rfl⟩, by kernel_rfl⟩, ⟨Try.prog.types.size - 1, by kernel_rfl⟩⟩
set_option maxRecDepth 100000 in
set_option maxHeartbeats 8000000 in
theorem longest_any (s : List UInt8) (hs : s.length ≤ 512) :
    Ct Try.prog 33 [.string (str s)] [] fun v H' => ∃ L D q1 q2, LongAll s L D ∧ v = .tuple #[.slice q1 s.length s.length, .slice q2 s.length s.length] ∧ H' = [own (.slice q1 s.length s.length) 3 1 s.length (flat fI (rowN s.length L)), own (.slice q2 s.length s.length) 3 1 s.length (flat fI (rowN s.length D))] := by
  obtain ⟨N, hN⟩ : ∃ N, s.length = N := ⟨_, rfl⟩
  rw [hN]
  rw [hN] at hs
  (refine spec_enter Try.func33 Try.ntmps33 rfl rfl fun Fr => ?_; dsimp only [List.cons_append, List.nil_append, ini, Nat.reduceAdd])
  (repeat' (first | (apply run_qg 1; (focus rfl); (focus exact wt); (focus rfl); (focus (exact qg1))) | refine cod_seq ?_ | refine cod_region ?_ | refine run_nil ?_ | refine pst_then ?_))
  refine cod_cut_drop 0 (σ := Option Addr × Option Addr) (fun _ => True) (fun x => [(2, .slice x.1 N N), (3, .slice x.2 N N)]) (fun x => [own (.slice x.1 N N) 3 1 N (flat fI (rowN N fun _ => 0)), own (.slice x.2 N N) 3 1 N (flat fI (rowN N fun _ => 0))]) ?_ ?_ <;> dsimp only [List.drop]
  · (refine cod_drawn_ks (Hq := []) [] [] rfl (by kernel_rfl) (by simp only [List.length_cons, List.length_nil, Nat.reduceAdd]; rfl) ?_)
    (repeat' (first | (apply drnK_take 1; (focus rfl); (focus rfl); (focus exact wt); (focus (decide +kernel)); (focus exact hsq); (focus rfl); (focus (exact qg1))) | (apply drnK_take 6; (focus rfl); (focus rfl); (focus exact wt); (focus (decide +kernel)); (focus exact hsq); (focus rfl); (focus (first | exact qs6 | exact qg6 | exact q_max rfl rfl rfl | exact q_sliceData rfl rfl (by omega) | exact q_sliceDataN rfl rfl | exact q_unsafeStringN rfl rfl rfl | exact q_cap_slice rfl rfl))) | (apply drnK_done; (focus (decide +kernel))) | (apply drnK_skip; (focus rfl)) | (apply drnK_wrap; (focus rfl))))
    (refine drnK_at 2 ?_; refine drnK_two 5 (by kernel_rfl) ?_ ?_)
    · ((first | refine drnI_s 1 2 (by rfl) wt (by rfl) (by exact (opr_make (fI) (0) (c := N) rfl rfl rfl (by first | rfl | omega) (by first | rfl | omega) rfl rfl (by omega) (by (unfold maxLen); omega))) ?_ | refine drnI_n 1 2 (by rfl) wt (by exact (opr_make (fI) (0) (c := N) rfl rfl rfl (by first | rfl | omega) (by first | rfl | omega) rfl rfl (by omega) (by (unfold maxLen); omega))) ?_); rintro _ _ ⟨q1, rfl, rfl⟩; refine ⟨(by first | exact fun h => absurd h (by decide) | exact fun _ => hsq), ?_⟩; (try dsimp only [List.cons_append, List.nil_append]))
      (repeat' (first | (apply drnK_take 1; (focus rfl); (focus rfl); (focus exact wt); (focus (decide +kernel)); (focus exact hsq); (focus rfl); (focus (exact qg1))) | (apply drnK_done; (focus (decide +kernel))) | (apply drnK_skip; (focus rfl)) | (apply drnK_wrap; (focus rfl))))
      (refine drnK_at 5 ?_; (first | refine drnK_ones _ (by rfl) (by rfl) (by kernel_rfl) wt (by rfl) (by exact (opr_make (fI) (0) (c := N) rfl rfl rfl (by first | rfl | omega) (by first | rfl | omega) rfl rfl (by omega) (by (unfold maxLen); omega))) ?_ | refine drnK_onen _ (by rfl) (by rfl) (by kernel_rfl) wt (by exact (opr_make (fI) (0) (c := N) rfl rfl rfl (by first | rfl | omega) (by first | rfl | omega) rfl rfl (by omega) (by (unfold maxLen); omega))) ?_); rintro _ _ ⟨q2, rfl, rfl⟩; refine ⟨(by first | exact fun h => absurd h (by decide) | exact fun _ => hsq), ?_⟩; (try dsimp only [List.cons_append, List.nil_append]))
      rw [rowN_zero]
      (repeat' (first | (apply drnK_take 1; (focus rfl); (focus rfl); (focus exact wt); (focus (decide +kernel)); (focus exact hsq); (focus rfl); (focus (exact qg1))) | (apply drnK_end; (focus (decide +kernel))) | (apply drnK_done; (focus (decide +kernel)))))
      exact pst_cut ((q1, q2)) (by trivial) (FSub.of fsa) hsa
    · ((first | refine drnI_s 1 5 (by rfl) wt (by rfl) (by exact (opr_make (fI) (0) (c := N) rfl rfl rfl (by first | rfl | omega) (by first | rfl | omega) rfl rfl (by omega) (by (unfold maxLen); omega))) ?_ | refine drnI_n 1 5 (by rfl) wt (by exact (opr_make (fI) (0) (c := N) rfl rfl rfl (by first | rfl | omega) (by first | rfl | omega) rfl rfl (by omega) (by (unfold maxLen); omega))) ?_); rintro _ _ ⟨q2, rfl, rfl⟩; refine ⟨(by first | exact fun h => absurd h (by decide) | exact fun _ => hsq), ?_⟩; (try dsimp only [List.cons_append, List.nil_append]))
      (repeat' (first | (apply drnK_done; (focus (decide +kernel))) | (apply drnK_skip; (focus rfl)) | (apply drnK_wrap; (focus rfl))))
      (refine drnK_at 2 ?_; (first | refine drnK_ones _ (by rfl) (by rfl) (by kernel_rfl) wt (by rfl) (by exact (opr_make (fI) (0) (c := N) rfl rfl rfl (by first | rfl | omega) (by first | rfl | omega) rfl rfl (by omega) (by (unfold maxLen); omega))) ?_ | refine drnK_onen _ (by rfl) (by rfl) (by kernel_rfl) wt (by exact (opr_make (fI) (0) (c := N) rfl rfl rfl (by first | rfl | omega) (by first | rfl | omega) rfl rfl (by omega) (by (unfold maxLen); omega))) ?_); rintro _ _ ⟨q1, rfl, rfl⟩; refine ⟨(by first | exact fun h => absurd h (by decide) | exact fun _ => hsq), ?_⟩; (try dsimp only [List.cons_append, List.nil_append]))
      rw [rowN_zero]
      (repeat' (first | (apply drnK_take 1; (focus rfl); (focus rfl); (focus exact wt); (focus (decide +kernel)); (focus exact hsq); (focus rfl); (focus (exact qg1))) | (apply drnK_end; (focus (decide +kernel))) | (apply drnK_done; (focus (decide +kernel)))))
      exact pst_cut ((q1, q2)) (by trivial) (FSub.of fsa) hsa
  rintro ⟨q1, q2⟩ _
  dsimp only [List.cons_append, List.nil_append]
  (repeat' (first | refine cod_seq ?_ | refine cod_region ?_ | refine pst_then ?_))
  refine run_os wt rfl (opr_makeMapA (k := 97) (z' := .slice none 0 0) (e := 33) rfl) ?_
  rintro _ _ ⟨bm, rfl, rfl⟩
  rw [show (fun _ : K3 => Value.slice none 0 0) = look3 [] from rfl]
  (repeat' (first | (apply run_qg 1; (focus rfl); (focus exact wt); (focus rfl); (focus (exact qg1))) | refine cod_seq ?_ | refine cod_region ?_ | refine run_nil ?_ | refine pst_then ?_ | refine cod_block ?_))
  refine cod_heap (H' := tabE [] :: _) (bundle_nil _) ?_
  (refine cod_loop_rw (σ := Nat × (Nat → Nat) × (Nat → Nat) × List Row3) (fun x => x.1 ≤ N ∧ Longs s x.2.1 x.2.2.1 x.1 ∧ TabOk s x.1 x.2.2.2) (fun x => [(5, .int .i64 (x.1 : Int))]) (fun x => [amap Try.prog 97 (.slice none 0 0) bm x.1 (look3 x.2.2.2), own (.slice q1 N N) 3 1 N (flat fI (rowN N x.2.1)), own (.slice q2 N N) 3 1 N (flat fI (rowN N x.2.2.1)), tabE x.2.2.2]) _ (fun x => N - x.1) ((0, fun _ => 0, fun _ => 0, [])) (by exact ⟨Nat.zero_le _, fun j => ⟨fun h => absurd h (Nat.not_lt_zero _), fun _ => ⟨rfl, rfl⟩⟩, List.Pairwise.nil, fun r hr => absurd hr List.not_mem_nil, fun k t hk => absurd hk (Nat.not_lt_zero _)⟩) (by exact fsa) (by (first | exact HSub.of_picks_rest (by exact pca))) (fun ⟨i, L, D, tab⟩ ⟨hiN, hL, hT⟩ => ?_); dsimp only [List.cons_append, List.nil_append])
  dsimp only at hiN hL hT ⊢
  rcases Nat.lt_or_ge N (i + 3) with hge | hlt
  · (repeat' (first | (apply run_qg 1; (focus rfl); (focus exact wt); (focus rfl); (focus (exact qg1))) | (apply run_qg 4; (focus rfl); (focus exact wt); (focus rfl); (focus (first | exact qg4 | exact qs4))) | (apply run_qg 6; (focus rfl); (focus exact wt); (focus rfl); (focus (first | exact qs6 | exact qg6 | exact q_max rfl rfl rfl | exact q_sliceData rfl rfl (by omega) | exact q_sliceDataN rfl rfl | exact q_unsafeStringN rfl rfl rfl | exact q_cap_slice rfl rfl))) | refine cod_seq ?_ | refine cod_region ?_ | refine run_nil ?_ | refine pst_then ?_ | (apply cod_cond_f; (focus rfl)) | refine cod_exit ?_ | refine cod_ret ?_ | refine pst_block_here ?_ | refine pst_then_exit ?_))
    exact pst_fin rfl (by exact resa) _ (⟨L, D, q1, q2, longs_all hL (by omega), rfl, rfl⟩) (by exact hsa)
  · obtain ⟨x0, h0⟩ : ∃ x, s[i]? = some x := ⟨_, List.getElem?_eq_getElem (by omega)⟩
    obtain ⟨x1, h1⟩ : ∃ x, s[i + 1]? = some x := ⟨_, List.getElem?_eq_getElem (by omega)⟩
    obtain ⟨x2, h2⟩ : ∃ x, s[i + 2]? = some x := ⟨_, List.getElem?_eq_getElem (by omega)⟩
    have ht : tri s i (x0, x1, x2) := ⟨h0, h1, h2⟩
    (repeat' (first | (apply run_qg 1; (focus rfl); (focus exact wt); (focus rfl); (focus (exact qg1))) | (apply run_qg 4; (focus rfl); (focus exact wt); (focus rfl); (focus (first | exact qg4 | exact qs4))) | (apply run_qg 6; (focus rfl); (focus exact wt); (focus rfl); (focus (first | exact qs6 | exact qg6 | exact q_max rfl rfl rfl | exact q_sliceData rfl rfl (by omega) | exact q_sliceDataN rfl rfl | exact q_unsafeStringN rfl rfl rfl | exact q_cap_slice rfl rfl))) | refine cod_seq ?_ | refine cod_region ?_ | refine run_nil ?_ | refine pst_then ?_ | (apply cod_cond_t; (focus rfl)) | refine cod_block ?_ | refine cod_skip ?_ | refine cod_scope ?_))
    (refine cod_drawn_ks (Hq := []) [] [] rfl (by kernel_rfl) (by simp only [List.length_cons, List.length_nil, Nat.reduceAdd]; rfl) ?_)
    (repeat' (first | (apply drnK_take 1; (focus rfl); (focus rfl); (focus exact wt); (focus (decide +kernel)); (focus exact hsq); (focus rfl); (focus (exact qg1))) | (apply drnK_take 3; (focus rfl); (focus rfl); (focus exact wt); (focus (decide +kernel)); (focus exact hsq); (focus rfl); (focus (first | exact qg3 | exact qs3))) | (apply drnK_take 4; (focus rfl); (focus rfl); (focus exact wt); (focus (decide +kernel)); (focus exact hsq); (focus rfl); (focus (first | exact qg4 | exact qs4))) | (apply drnK_done; (focus (decide +kernel))) | (apply drnK_skip; (focus rfl)) | (apply drnK_wrap; (focus rfl))))
    (refine drnK_at 11 ?_; refine drnK_take _ rfl rfl wt (by decide +kernel) hsq rfl (q_build3 (e := 5) (z3 := .int .u8 0) (by kernel_rfl) rfl rfl rfl rfl rfl rfl rfl) ?_)
    (repeat' (first | (apply run_qg 1; (focus rfl); (focus exact wt); (focus rfl); (focus (exact qg1))) | (apply run_qg 2; (focus rfl); (focus exact wt); (focus rfl); (focus (first | exact qg2 | exact qs2))) | refine cod_seq ?_ | refine cod_region ?_ | refine pst_then ?_ | refine cod_label ?_ | (apply drnK_ones 8; (focus rfl); (focus rfl); (focus (decide +kernel)); (focus exact wt); (focus rfl); (focus (exact opr_new rfl)); (rintro _ _ ⟨b, rfl, rfl⟩; refine ⟨(by first | exact fun h => absurd h (by decide) | exact fun _ => hsq), ?_⟩)) | (apply drnK_onen 9; (focus rfl); (focus rfl); (focus (decide +kernel)); (focus exact wt); (focus (exact opr_store_box_agg rfl rfl rfl (by exact pka) rfl rfl rfl (by exact spla))); (rintro _ _ ⟨rfl, rfl⟩; refine ⟨(by first | exact fun h => absurd h (by decide) | exact fun _ => hsq), ?_⟩)) | (apply drnK_end; (focus (decide +kernel)))))
    obtain ⟨xs, q, c, rest, e1, e2, e3, e4⟩ := tab_open hT ht
    have hi2 : i < N := by omega
    have z1 : upd1 L i 0 = L := by have := upd1_self L i; rwa [((hL i).2 (Nat.le_refl _)).1] at this
    have z2 : upd1 D i 0 = D := by have := upd1_self D i; rwa [((hL i).2 (Nat.le_refl _)).2] at this
    have hxl := e3.2.2
    refine run_qs wt rfl (q_lookupA (t := (x0, x1, x2)) (e := 33) rfl rfl rfl pka e1) ?_
    refine run_heap (e2 pka) ?_
    (repeat' (first | (apply run_qg 1; (focus rfl); (focus exact wt); (focus rfl); (focus (exact qg1))) | (apply run_qg 6; (focus rfl); (focus exact wt); (focus rfl); (focus (first | exact qs6 | exact qg6 | exact q_max rfl rfl rfl | exact q_sliceData rfl rfl (by omega) | exact q_sliceDataN rfl rfl | exact q_unsafeStringN rfl rfl rfl | exact q_cap_slice rfl rfl))) | refine run_nil ?_ | refine pst_then ?_ | refine cod_block ?_))
    rw [← z1, ← z2]
    (refine cod_loop_rw (σ := Nat × Nat × Nat) (fun x => x.1 ≤ xs.length ∧ Part s xs i x.1 x.2.1 x.2.2) (fun x => [(40, .int .i64 (x.1 : Int))]) (fun x => [own (.slice q1 N N) 3 1 N (flat fI (rowN N (upd1 L i x.2.1))), own (.slice q2 N N) 3 1 N (flat fI (rowN N (upd1 D i x.2.2)))]) _ (fun x => xs.length - x.1) ((0, 0, 0)) (by exact ⟨Nat.zero_le _, part_nil _ _ _⟩) (by exact fsa) (by (first | exact HSub.of_picks_rest (by exact pca))) (fun ⟨idx, n0, d0⟩ ⟨hidx, hP⟩ => ?_); dsimp only [List.cons_append, List.nil_append])
    dsimp only at hidx hP ⊢
    have gL : (rowN N (upd1 L i n0))[i]? = some (n0 : Int) := by rw [rowN_at _ hi2, upd1_at]
    have gD : (rowN N (upd1 D i d0))[i]? = some (d0 : Int) := by rw [rowN_at _ hi2, upd1_at]
    have hn0 : n0 ≤ 66 ∧ i + n0 ≤ N := by rcases hP.1 with h | h <;> omega
    rcases Nat.lt_or_ge idx xs.length with hlt2 | hge2
    · obtain ⟨x, hx⟩ : ∃ x, xs[idx]? = some x := ⟨_, List.getElem?_eq_getElem hlt2⟩
      obtain ⟨k, rfl, hki, hkt⟩ := e3.1 x (List.mem_of_getElem? hx)
      have hk := hx
      have hik : (i : Int) - (k : Int) = ((i - k : Nat) : Int) := by omega
      (repeat' (first | (apply run_qg 1; (focus rfl); (focus exact wt); (focus rfl); (focus (exact qg1))) | (apply run_qg 2; (focus rfl); (focus exact wt); (focus rfl); (focus (first | exact qg2 | exact qs2))) | (apply run_qg 3; (focus rfl); (focus exact wt); (focus rfl); (focus (first | exact qg3 | exact qs3))) | (apply run_qg 4; (focus rfl); (focus exact wt); (focus rfl); (focus (first | exact qg4 | exact qs4))) | refine cod_seq ?_ | refine cod_region ?_ | refine run_nil ?_ | refine pst_then ?_ | (apply cod_cond_t; (focus rfl)) | refine cod_block ?_ | refine cod_skip ?_))
      (refine cod_loop_ro (σ := Nat) (fun n => 3 ≤ n ∧ n ≤ 66 ∧ i + n ≤ N ∧ mat s k i n) (fun n => [(9, .int .i64 (n : Int))]) (fun n => 66 - n) (3) (by exact ⟨by decide, by decide, by omega, mat_tri hkt ht⟩) (by exact fsa) (fun n ⟨h3, h66, hin, hm⟩ => ?_); dsimp only [List.cons_append, List.nil_append])
      by_cases hn66 : n = 66
      · have pn := part_next ht hk hki hkt hP h3 h66 (by omega) hm (.inl hn66)
        rcases Nat.lt_or_ge n n0 with hlt3 | hge3
        · omega
        · (repeat' (first | (apply run_qg 1; (focus rfl); (focus exact wt); (focus rfl); (focus (exact qg1))) | (apply run_qg 2; (focus rfl); (focus exact wt); (focus rfl); (focus (first | exact qg2 | exact qs2))) | (apply run_qg 3; (focus rfl); (focus exact wt); (focus rfl); (focus (first | exact qg3 | exact qs3))) | (apply run_qg 4; (focus rfl); (focus exact wt); (focus rfl); (focus (first | exact qg4 | exact qs4))) | refine cod_seq ?_ | refine cod_region ?_ | refine run_nil ?_ | refine pst_then ?_ | (apply cod_cond_f; (focus rfl)) | refine cod_exit ?_ | refine cod_skip ?_ | refine pst_block_here ?_ | refine pst_then_exit ?_ | (apply run_offs; (focus rfl); (focus rfl); (focus rfl))))
          (refine run_on wt (opr_store_ownm (f := fI) (q' := (n : Int)) rfl rfl rfl rfl (by exact pka) rfl (by omega) (by intro _; rfl) (by assumption) rfl rfl (by rfl)) ?_; rintro _ _ ⟨rfl, rfl⟩)
          rw [rowN_set _ _ hi2, upd1_upd1]
          (repeat' (first | (apply run_qg 3; (focus rfl); (focus exact wt); (focus rfl); (focus (first | exact qg3 | exact qs3)))))
          rw [hik]
          (refine run_on wt (opr_store_ownm (f := fI) (q' := ((i - k : Nat) : Int)) rfl rfl rfl rfl (by exact pka) rfl (by omega) (by intro _; rfl) (by assumption) rfl rfl (by rfl)) ?_; rintro _ _ ⟨rfl, rfl⟩)
          rw [rowN_set _ _ hi2, upd1_upd1]
          (repeat' (first | (apply run_qg 1; (focus rfl); (focus exact wt); (focus rfl); (focus (exact qg1))) | (apply run_qg 4; (focus rfl); (focus exact wt); (focus rfl); (focus (first | exact qg4 | exact qs4))) | refine cod_region ?_ | refine run_nil ?_ | refine pst_then ?_ | refine pst_block ?_))
          refine pst_again ((idx + 1, n, i - k)) ?_ (FSub.of (by (try dsimp only); exact fsa)) (by (try dsimp only); exact hsa) ?_
          · exact ⟨by omega, pn.2 hge3⟩
          · dsimp only; omega
      · by_cases hnN : i + n = N
        · have pn := part_next ht hk hki hkt hP h3 h66 (by omega) hm (.inr (.inl (by omega)))
          rcases Nat.lt_or_ge n n0 with hlt3 | hge3
          · omega
          · (repeat' (first | (apply run_qg 1; (focus rfl); (focus exact wt); (focus rfl); (focus (exact qg1))) | (apply run_qg 2; (focus rfl); (focus exact wt); (focus rfl); (focus (first | exact qg2 | exact qs2))) | (apply run_qg 3; (focus rfl); (focus exact wt); (focus rfl); (focus (first | exact qg3 | exact qs3))) | (apply run_qg 4; (focus rfl); (focus exact wt); (focus rfl); (focus (first | exact qg4 | exact qs4))) | (apply run_qg 6; (focus rfl); (focus exact wt); (focus rfl); (focus (first | exact qs6 | exact qg6 | exact q_max rfl rfl rfl | exact q_sliceData rfl rfl (by omega) | exact q_sliceDataN rfl rfl | exact q_unsafeStringN rfl rfl rfl | exact q_cap_slice rfl rfl))) | refine cod_seq ?_ | refine cod_region ?_ | refine run_nil ?_ | refine pst_then ?_ | (apply cod_cond_f; (focus rfl)) | refine cod_exit ?_ | refine cod_skip ?_ | refine pst_block_here ?_ | refine pst_then_exit ?_))
            (refine run_on wt (opr_store_ownm (f := fI) (q' := (n : Int)) rfl rfl rfl rfl (by exact pka) rfl (by omega) (by intro _; rfl) (by assumption) rfl rfl (by rfl)) ?_; rintro _ _ ⟨rfl, rfl⟩)
            rw [rowN_set _ _ hi2, upd1_upd1]
            (repeat' (first | (apply run_qg 3; (focus rfl); (focus exact wt); (focus rfl); (focus (first | exact qg3 | exact qs3)))))
            rw [hik]
            (refine run_on wt (opr_store_ownm (f := fI) (q' := ((i - k : Nat) : Int)) rfl rfl rfl rfl (by exact pka) rfl (by omega) (by intro _; rfl) (by assumption) rfl rfl (by rfl)) ?_; rintro _ _ ⟨rfl, rfl⟩)
            rw [rowN_set _ _ hi2, upd1_upd1]
            (repeat' (first | (apply run_qg 1; (focus rfl); (focus exact wt); (focus rfl); (focus (exact qg1))) | (apply run_qg 4; (focus rfl); (focus exact wt); (focus rfl); (focus (first | exact qg4 | exact qs4))) | refine cod_region ?_ | refine run_nil ?_ | refine pst_then ?_ | refine pst_block ?_))
            refine pst_again ((idx + 1, n, i - k)) ?_ (FSub.of (by (try dsimp only); exact fsa)) (by (try dsimp only); exact hsa) ?_
            · exact ⟨by omega, pn.2 hge3⟩
            · dsimp only; omega
        · obtain ⟨y1, hy1⟩ : ∃ y, s[k + n]? = some y := ⟨_, List.getElem?_eq_getElem (by omega)⟩
          obtain ⟨y2, hy2⟩ : ∃ y, s[i + n]? = some y := ⟨_, List.getElem?_eq_getElem (by omega)⟩
          by_cases hyy : y1 = y2
          · subst hyy
            (repeat' (first | (apply run_qg 1; (focus rfl); (focus exact wt); (focus rfl); (focus (exact qg1))) | (apply run_qg 4; (focus rfl); (focus exact wt); (focus rfl); (focus (first | exact qg4 | exact qs4))) | (apply run_qg 6; (focus rfl); (focus exact wt); (focus rfl); (focus (first | exact qs6 | exact qg6 | exact q_max rfl rfl rfl | exact q_sliceData rfl rfl (by omega) | exact q_sliceDataN rfl rfl | exact q_unsafeStringN rfl rfl rfl | exact q_cap_slice rfl rfl))) | refine cod_seq ?_ | refine cod_region ?_ | refine run_nil ?_ | refine pst_then ?_ | (apply cod_cond_t; (focus rfl)) | (apply cod_cond_f; (focus rfl)) | refine cod_block ?_ | refine cod_skip ?_ | refine pst_block ?_ | (apply cod_drawn_k; (focus kernel_rfl); (focus (simp only [List.length_cons, List.length_nil, Nat.reduceAdd]; rfl))) | (apply drnK_take 1; (focus rfl); (focus rfl); (focus exact wt); (focus (decide +kernel)); (focus exact hsq); (focus rfl); (focus (exact qg1))) | (apply drnK_take 3; (focus rfl); (focus rfl); (focus exact wt); (focus (decide +kernel)); (focus exact hsq); (focus rfl); (focus (first | exact qg3 | exact qs3))) | (apply drnK_take 4; (focus rfl); (focus rfl); (focus exact wt); (focus (decide +kernel)); (focus exact hsq); (focus rfl); (focus (first | exact qg4 | exact qs4))) | (apply drnK_end; (focus (decide +kernel)))))
            refine pst_again (n + 1) ?_ (FSub.of (by (try dsimp only); exact fsa)) (by (try dsimp only); exact hsa) ?_
            · exact ⟨by omega, by omega, by omega, mat_next hm (by rw [hy1, hy2])⟩
            · omega
          · have hyn : y1.toNat ≠ y2.toNat := fun h => hyy (UInt8.toNat_inj.1 h)
            have pn := part_next ht hk hki hkt hP h3 h66 (by omega) hm (.inr (.inr (by rw [hy1, hy2]; exact fun h => hyy (Option.some.inj h))))
            rcases Nat.lt_or_ge n n0 with hlt3 | hge3
            · (repeat' (first | (apply run_qg 1; (focus rfl); (focus exact wt); (focus rfl); (focus (exact qg1))) | (apply run_qg 2; (focus rfl); (focus exact wt); (focus rfl); (focus (first | exact qg2 | exact qs2))) | (apply run_qg 3; (focus rfl); (focus exact wt); (focus rfl); (focus (first | exact qg3 | exact qs3))) | (apply run_qg 4; (focus rfl); (focus exact wt); (focus rfl); (focus (first | exact qg4 | exact qs4))) | (apply run_qg 6; (focus rfl); (focus exact wt); (focus rfl); (focus (first | exact qs6 | exact qg6 | exact q_max rfl rfl rfl | exact q_sliceData rfl rfl (by omega) | exact q_sliceDataN rfl rfl | exact q_unsafeStringN rfl rfl rfl | exact q_cap_slice rfl rfl))) | refine cod_seq ?_ | refine cod_region ?_ | refine run_nil ?_ | refine pst_then ?_ | (apply cod_cond_t; (focus rfl)) | refine cod_block ?_ | refine cod_exit ?_ | refine cod_skip ?_ | refine pst_block_here ?_ | refine pst_block_out rfl ?_ | refine pst_then_exit ?_ | (apply cod_drawn_k; (focus kernel_rfl); (focus (simp only [List.length_cons, List.length_nil, Nat.reduceAdd]; rfl))) | (apply drnK_take 1; (focus rfl); (focus rfl); (focus exact wt); (focus (decide +kernel)); (focus exact hsq); (focus rfl); (focus (exact qg1))) | (apply drnK_take 3; (focus rfl); (focus rfl); (focus exact wt); (focus (decide +kernel)); (focus exact hsq); (focus rfl); (focus (first | exact qg3 | exact qs3))) | (apply drnK_take 4; (focus rfl); (focus rfl); (focus exact wt); (focus (decide +kernel)); (focus exact hsq); (focus rfl); (focus (first | exact qg4 | exact qs4))) | (apply drnK_end; (focus (decide +kernel)))))
              refine pst_again ((idx + 1, n0, d0)) ?_ (FSub.of (by (try dsimp only); exact fsa)) (by (try dsimp only); exact hsa) ?_
              · exact ⟨by omega, pn.1 hlt3⟩
              · dsimp only; omega
            · (repeat' (first | (apply run_qg 1; (focus rfl); (focus exact wt); (focus rfl); (focus (exact qg1))) | (apply run_qg 2; (focus rfl); (focus exact wt); (focus rfl); (focus (first | exact qg2 | exact qs2))) | (apply run_qg 3; (focus rfl); (focus exact wt); (focus rfl); (focus (first | exact qg3 | exact qs3))) | (apply run_qg 4; (focus rfl); (focus exact wt); (focus rfl); (focus (first | exact qg4 | exact qs4))) | (apply run_qg 6; (focus rfl); (focus exact wt); (focus rfl); (focus (first | exact qs6 | exact qg6 | exact q_max rfl rfl rfl | exact q_sliceData rfl rfl (by omega) | exact q_sliceDataN rfl rfl | exact q_unsafeStringN rfl rfl rfl | exact q_cap_slice rfl rfl))) | refine cod_seq ?_ | refine cod_region ?_ | refine run_nil ?_ | refine pst_then ?_ | (apply cod_cond_t; (focus rfl)) | (apply cod_cond_f; (focus rfl)) | refine cod_block ?_ | refine cod_exit ?_ | refine cod_skip ?_ | refine pst_block_here ?_ | refine pst_block_out rfl ?_ | refine pst_then_exit ?_ | (apply cod_drawn_k; (focus kernel_rfl); (focus (simp only [List.length_cons, List.length_nil, Nat.reduceAdd]; rfl))) | (apply drnK_take 1; (focus rfl); (focus rfl); (focus exact wt); (focus (decide +kernel)); (focus exact hsq); (focus rfl); (focus (exact qg1))) | (apply drnK_take 3; (focus rfl); (focus rfl); (focus exact wt); (focus (decide +kernel)); (focus exact hsq); (focus rfl); (focus (first | exact qg3 | exact qs3))) | (apply drnK_take 4; (focus rfl); (focus rfl); (focus exact wt); (focus (decide +kernel)); (focus exact hsq); (focus rfl); (focus (first | exact qg4 | exact qs4))) | (apply drnK_end; (focus (decide +kernel)))))
              (refine run_on wt (opr_store_ownm (f := fI) (q' := (n : Int)) rfl rfl rfl rfl (by exact pka) rfl (by omega) (by intro _; rfl) (by assumption) rfl rfl (by rfl)) ?_; rintro _ _ ⟨rfl, rfl⟩)
              rw [rowN_set _ _ hi2, upd1_upd1]
              (repeat' (first | (apply run_qg 3; (focus rfl); (focus exact wt); (focus rfl); (focus (first | exact qg3 | exact qs3)))))
              rw [hik]
              (refine run_on wt (opr_store_ownm (f := fI) (q' := ((i - k : Nat) : Int)) rfl rfl rfl rfl (by exact pka) rfl (by omega) (by intro _; rfl) (by assumption) rfl rfl (by rfl)) ?_; rintro _ _ ⟨rfl, rfl⟩)
              rw [rowN_set _ _ hi2, upd1_upd1]
              (repeat' (first | (apply run_qg 1; (focus rfl); (focus exact wt); (focus rfl); (focus (exact qg1))) | (apply run_qg 4; (focus rfl); (focus exact wt); (focus rfl); (focus (first | exact qg4 | exact qs4))) | refine cod_region ?_ | refine run_nil ?_ | refine pst_then ?_ | refine pst_block ?_))
              refine pst_again ((idx + 1, n, i - k)) ?_ (FSub.of (by (try dsimp only); exact fsa)) (by (try dsimp only); exact hsa) ?_
              · exact ⟨by omega, pn.2 hge3⟩
              · dsimp only; omega
    · obtain rfl : idx = xs.length := by omega
      have hlong := part_all ht e3 hP
      (repeat' (first | (apply run_qg 1; (focus rfl); (focus exact wt); (focus rfl); (focus (exact qg1))) | (apply run_qg 2; (focus rfl); (focus exact wt); (focus rfl); (focus (first | exact qg2 | exact qs2))) | (apply run_qg 4; (focus rfl); (focus exact wt); (focus rfl); (focus (first | exact qg4 | exact qs4))) | refine cod_seq ?_ | refine cod_region ?_ | refine run_nil ?_ | refine pst_then ?_ | (apply cod_cond_f; (focus rfl)) | refine cod_exit ?_ | refine pst_block_here ?_ | refine pst_then_exit ?_ | (apply run_osg 10; (focus rfl); (focus exact wt); (focus rfl); (focus (exact opr_buildSlice rfl rfl rfl (by exact blda) rfl rfl (by decide) rfl)); (rintro _ _ ⟨q, rfl, rfl⟩))))
      refine run_os wt rfl (opr_mapEntryA (e := 33) rfl rfl rfl pka e1 (by unfold maxLen; omega)) ?_
      rintro _ _ ⟨st, rfl, rfl⟩
      (repeat' (first | (apply run_qg 1; (focus rfl); (focus exact wt); (focus rfl); (focus (exact qg1)))))
      refine run_os wt rfl (by first | exact opr_append_lit0 (fI) [(i : Int)] rfl rfl rfl (by exact pka) (by rfl) (by rfl) (by intro _; rfl) (by (first | exact one_fS | exact one_fI | exact one_fB | exact one_fP | exact one_fIIS | exact one_fIIIS | exact one_fII | exact one_fSI | exact one_fIIU | exact one_fY | exact one_fBl | exact one_fT | exact one_fE | assumption)) rfl (by simp only [List.length_cons, List.length_nil]; omega) (by (unfold maxLen); simp only [List.length_cons, List.length_nil]; omega) | exact opr_append_lit (fI) [(i : Int)] rfl rfl rfl (by exact pka) (by exact pka) (by rfl) (by rfl) (by first | rfl | omega) (by intro _; rfl) (by (first | exact one_fS | exact one_fI | exact one_fB | exact one_fP | exact one_fIIS | exact one_fIIIS | exact one_fII | exact one_fSI | exact one_fIIU | exact one_fY | exact one_fBl | exact one_fT | exact one_fE | assumption)) rfl (by simp only [List.length_cons, List.length_nil]; omega) (by (unfold maxLen); simp only [List.length_cons, List.length_nil]; omega)) ?_
      rintro _ _ ⟨q5, c5, rfl, rfl⟩
      (repeat' (first | (apply run_qg 1; (focus rfl); (focus exact wt); (focus rfl); (focus (exact qg1)))))
      refine run_on wt (opr_entryStoreA rfl rfl rfl rfl pka) ?_
      rintro _ _ ⟨rfl, rfl⟩
      obtain ⟨g1, g2⟩ := e4 (xs ++ [(i : Int)]) q5 c5 (pos_add ht e3)
      rw [g2]
      (repeat' (first | (apply run_qg 1; (focus rfl); (focus exact wt); (focus rfl); (focus (exact qg1))) | (apply run_qg 4; (focus rfl); (focus exact wt); (focus rfl); (focus (first | exact qg4 | exact qs4))) | refine cod_region ?_ | refine run_nil ?_ | refine pst_then ?_ | refine pst_block ?_ | refine pst_scope ?_))
      refine pst_weak (FSub.refl _) (bundle_in (e := rowE ((x0, x1, x2), xs ++ [(i : Int)], q5, c5)) (l := rest.map rowE) pka pka (rowE_x _)) ?_
      refine pst_again ((i + 1, upd1 L i n0, upd1 D i d0, ((x0, x1, x2), xs ++ [(i : Int)], q5, c5) :: rest)) ?_ (FSub.of (by (try dsimp only); exact fsa)) (by (try dsimp only); exact hsa) ?_
      · exact ⟨by omega, longs_next hL hlong, g1⟩
      · dsimp only; omega
end Go.Proofs.Ytnejhldagkennaa.lz
