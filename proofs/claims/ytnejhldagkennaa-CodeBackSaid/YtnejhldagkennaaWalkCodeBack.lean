/-
  CodeBack: the walk (printed by gen_codeback.py).
-/
import Derived.Test.YtnejhldagkennaaCodeBackA
import Derived.Test.YtnejhldagkennaaCodeBackB
import Derived.Test.YtnejhldagkennaaCodeBackC
import Derived.Test.YtnejhldagkennaaCodeBackD
namespace Go.Proofs.Ytnejhldagkennaa.lawCodeBack
open Go.RowKit kit sl Go.Proofs.Ytnejhldagkennaa.code Go.Proofs.Ytnejhldagkennaa.lens Go.Proofs.Ytnejhldagkennaa.bits Go.Proofs.Ytnejhldagkennaa.pieces
set_option linter.unusedVariables false
theorem slice_shapeC {w : World} {sz : Nat} {v : Value} {rows : List (List Value)} (h : SliceAt w sz v rows) : ∃ q c, v = .slice q rows.length c ∧ rows.length ≤ c := by
  rcases h with ⟨h0, h1⟩ | ⟨b, off, cap, rfl, h2, _⟩
  · subst h0
    rcases h1 with rfl | ⟨q, c, rfl⟩
    · exact ⟨_, _, rfl, Nat.zero_le _⟩
    · exact ⟨_, _, rfl, Nat.zero_le _⟩
  · exact ⟨_, _, rfl, h2⟩
theorem law_any (q qs qa : Option Addr) (c cs ca : Nat) (l signs : List Int) (ah : List (Int × Int)) (hg : ∀ x ∈ l, (Lit.int .i64 x).wf = true) (hn : l.length ≤ 1000000000000000) (hs : signs.length ≤ 1000000000000000) (hcs : signs.length ≤ cs) (hga : ∀ p ∈ ah, (Lit.int .u64 p.1).wf = true ∧ (Lit.int .i64 p.2).wf = true) (hna : ah.length ≤ 8796093022207) :
    Ct Try.prog 7 [.slice q l.length c, .slice qs signs.length cs, .slice qa ah.length ca] [sl 1 (.slice q l.length c) (l.map fI), sl 1 (.slice qs signs.length cs) (signs.map fI), sl 2 (.slice qa ah.length ca) (ah.map fPc)] fun v H' => v = .bool true ∧ H' = [] := by
  rcases hwv : writeV l (signs.take (min signs.length 1024)) with ⟨ps, e⟩
  by_cases he : e = 0
  · subst he
    by_cases hk : packErr ah = 0
    · rcases Nat.lt_or_ge 1000 (packB ah).length with h | h
      · exact law_B q qs qa c cs ca l signs ah hg hn hs hcs hga hna hwv hk h
      · exact law_A q qs qa c cs ca l signs ah hg hn hs hcs hga hna hwv hk h
    · exact law_C q qs qa c cs ca l signs ah hg hn hs hcs hga hna hwv hk
  · exact law_D q qs qa c cs ca l signs ah hg hn hs hcs hga hna hwv he
theorem walk (W : World) (v : Value) (l : List Int) (hv : SliceAt W 1 v (l.map fun z : Int => [Value.int .i64 z])) (hg : ∀ z ∈ l, (Lit.int .i64 z).wf = true) (hn : l.length * Try.prog.bytesOf 3 ≤ reachBytes)
    (v2 : Value) (l2 : List Int) (hv2 : SliceAt W 1 v2 (l2.map fun z : Int => [Value.int .i64 z])) (hg2 : ∀ z ∈ l2, (Lit.int .i64 z).wf = true) (hn2 : l2.length * Try.prog.bytesOf 3 ≤ reachBytes)
    (v3 : Value) (l3 : List (Int × Int)) (hv3 : SliceAt W 2 v3 (l3.map fun p : Int × Int => [Value.int .u64 p.1, Value.int .i64 p.2])) (hg3 : ∀ p ∈ l3, (Lit.int .u64 p.1).wf = true ∧ (Lit.int .i64 p.2).wf = true) (hn3 : l3.length * Try.prog.bytesOf 49 ≤ reachBytes) :
    Calls Try.prog 7 #[v, v2, v3] W fun e w' => e = .returned (.bool true) ∧ Below W.heap.size W w' := by
  have e1 : Try.prog.bytesOf 3 = 8 := by kernel_rfl
  have e2 : Try.prog.bytesOf 49 = 16 := by kernel_rfl
  have hr : reachBytes = 140737488351232 := rfl
  rw [e1] at hn hn2
  rw [e2] at hn3
  obtain ⟨q, c, rfl, _⟩ := slice_shapeC hv
  obtain ⟨q2, c2, rfl, hc2⟩ := slice_shapeC hv2
  obtain ⟨q3, c3, rfl, _⟩ := slice_shapeC hv3
  simp only [List.length_map]
  simp only [List.length_map] at hv hv2 hv3 hc2
  exact law_of_ct (sh_cons hv (sh_cons hv2 (sh_cons hv3 sh_nil))) (law_any q q2 q3 c c2 c3 l l2 l3 hg (by omega) (by omega) hc2 hg3 (by omega))
end Go.Proofs.Ytnejhldagkennaa.lawCodeBack

