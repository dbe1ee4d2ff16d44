/-
  ScanOrder: the walk (printed by gen_scanorder.py).
-/
import Derived.Test.YtkkgmgffkjeklaaScanOrderN
import Derived.Test.YtkkgmgffkjeklaaScanOrderB
import Derived.Test.YtkkgmgffkjeklaaScanOrderI
import Derived.Test.YtkkgmgffkjeklaaScanOrderZ
namespace Go.Proofs.Ytkkgmgffkjeklaa.lawScanOrder
open Go.RowKit kit sl Go.Proofs.Ytkkgmgffkjeklaa.use Go.Proofs.Ytkkgmgffkjeklaa.blob Go.Proofs.Ytkkgmgffkjeklaa.seal Go.Proofs.Ytkkgmgffkjeklaa.disk Go.Proofs.Ytkkgmgffkjeklaa.within
set_option linter.unusedVariables false
attribute [local irreducible] box own sl old bptr eptr Qt Opr Run Cod Pst Drn
set_option maxRecDepth 100000 in
set_option maxHeartbeats 8000000 in
theorem law_any (qa qb : Option Addr) (ca cb : Nat) (lb : List LB) (bs : List Bool) (after turn : Int) (hW : -9223372036854775808 ≤ after ∧ after ≤ 9223372036854775807) (hl : lb.length ≤ 1000000000000000) (hbs : bs.length ≤ 1000000000000000) (hz : ∀ r ∈ lb, r.1.length ≤ maxLen) :
    Ct Try.prog 6 [.slice qa lb.length ca, .slice qb bs.length cb, .int .i64 after, .int .i64 turn] [sl 1 (.slice qa lb.length ca) (lb.map rowB), many 4 (lb.map lotB), sl 1 (.slice qb bs.length cb) (bs.map fB)] fun v H' => v = .bool true ∧ H' = [] := by
  obtain ⟨n, hn⟩ : ∃ n : Nat, min ((lb.length : Nat) : Int) 100 = (n : Int) := ⟨min lb.length 100, by omega⟩
  by_cases hn0 : n = 0
  · subst hn0
    have hl0 : lb = [] := List.eq_nil_of_length_eq_zero (by omega)
    subst hl0
    by_cases h1 : after < 0
    · exact zero_neg qa qb ca cb bs after turn hW hbs h1
    · by_cases h2 : 2147483647 < after
      · exact zero_big qa qb ca cb bs after turn hW hbs ⟨by omega, h2⟩
      · exact zero_in qa qb ca cb bs after turn hW hbs ⟨by omega, by omega⟩
  · have hb := withinF_bd turn n (by omega)
    obtain ⟨t, htw⟩ := Int.eq_ofNat_of_zero_le hb.1
    have ht : t < n := by omega
    by_cases h1 : after < 0
    · exact law_neg qa qb ca cb n t lb bs after turn hW hl hbs hz hn ht htw h1
    · by_cases h2 : 2147483647 - (n : Int) < after
      · exact law_big qa qb ca cb n t lb bs after turn hW hl hbs hz hn ht htw ⟨by omega, h2⟩
      · exact law_in qa qb ca cb n t lb bs after turn hW hl hbs hz hn ht htw ⟨by omega, by omega⟩
theorem open_lots {W : World} : ∀ (ls : List (Value × List (Int × Int × Int × ByteArray))), (∀ y ∈ ls, SliceAt W 4 y.1 (y.2.map fun p : Int × Int × Int × ByteArray => [Value.int .i64 p.1, Value.int .i64 p.2.1, Value.int .i64 p.2.2.1, Value.string p.2.2.2])) →
    ∃ lb : List LB, (ls.map fun y : Value × List (Int × Int × Int × ByteArray) => [y.1]) = lb.map rowB ∧ (∀ x ∈ lb.map lotB, SliceAt W 4 x.1 x.2) ∧ ∀ r ∈ lb, r.1.length ≤ maxLen := by
  intro ls
  induction ls with
  | nil => intro _; exact ⟨[], rfl, fun x hx => absurd hx List.not_mem_nil, fun x hx => absurd hx List.not_mem_nil⟩
  | cons y ls ih =>
    intro h
    obtain ⟨lb, h1, h2, h3⟩ := ih fun z hz => h z (List.mem_cons_of_mem _ hz)
    obtain ⟨v, l⟩ := y
    have h0 := h _ List.mem_cons_self
    have e : (l.map fun p : Int × Int × Int × ByteArray => [Value.int .i64 p.1, Value.int .i64 p.2.1, Value.int .i64 p.2.2.1, Value.string p.2.2.2]) = (l.map toB).map fBl := by
      rw [List.map_map]
      rfl
    dsimp only at h0
    rw [e] at h0
    have hb : (l.map toB).length ≤ maxLen := by
      rcases h0 with ⟨h5, _⟩ | ⟨_, _, cap, _, h5, h6, _⟩
      · have := congrArg List.length h5
        rw [List.length_map, List.length_nil] at this
        omega
      · rw [List.length_map] at h5
        omega
    obtain ⟨q, c, rfl⟩ := slice_shape h0
    rw [List.length_map] at h0
    refine ⟨(l.map toB, q, c) :: lb, ?_, fun x hx => ?_, fun r hr => ?_⟩
    · rw [List.map_cons, List.map_cons, h1, List.length_map]
      rfl
    · rcases List.mem_cons.1 hx with rfl | hx
      · exact h0
      · exact h2 x hx
    · rcases List.mem_cons.1 hr with rfl | hr
      · exact hb
      · exact h3 r hr
theorem walk (W : World) (a : Value) (ls : List (Value × List (Int × Int × Int × ByteArray))) (ha : SliceAt W 1 a (ls.map fun y : Value × List (Int × Int × Int × ByteArray) => [y.1])) (ga : ∀ y ∈ ls, SliceAt W 4 y.1 (y.2.map fun p : Int × Int × Int × ByteArray => [Value.int .i64 p.1, Value.int .i64 p.2.1, Value.int .i64 p.2.2.1, Value.string p.2.2.2]) ∧ ∀ p ∈ y.2, (Lit.int .i64 p.1).wf = true ∧ (Lit.int .i64 p.2.1).wf = true ∧ (Lit.int .i64 p.2.2.1).wf = true ∧ p.2.2.2.size ≤ maxLen) (na : ls.length * Try.prog.bytesOf 27 ≤ reachBytes)
    (b : Value) (bs : List Bool) (hb : SliceAt W 1 b (bs.map fun z : Bool => [Value.bool z])) (gb : ∀ z ∈ bs, True) (nb : bs.length * Try.prog.bytesOf 4 ≤ reachBytes)
    (after : Int) (wa : (Lit.int .i64 after).wf = true) (turn : Int) (wt : (Lit.int .i64 turn).wf = true) :
    Calls Try.prog 6 #[a, b, .int .i64 after, .int .i64 turn] W fun e w' => e = .returned (.bool true) ∧ Below W.heap.size W w' := by
  have hr : reachBytes = 140737488351232 := rfl
  have h24 : Try.prog.bytesOf 27 = 24 := by kernel_rfl
  have h1 : Try.prog.bytesOf 4 = 1 := by kernel_rfl
  rw [hr, h24] at na
  rw [hr, h1] at nb
  obtain ⟨lb, e1, e2, e3⟩ := open_lots ls fun y hy => (ga y hy).1
  have el : ls.length = lb.length := by have := congrArg List.length e1; simpa using this
  rw [e1] at ha
  obtain ⟨qa, ca, rfl⟩ := slice_shape ha
  obtain ⟨qb, cb, rfl⟩ := slice_shape hb
  simp only [List.length_map] at ha hb ⊢
  have hW : -9223372036854775808 ≤ after ∧ after ≤ 9223372036854775807 := by
    simp [Lit.wf, IntKind.min, IntKind.max, IntKind.signed, IntKind.bits] at wa
    omega
  exact law_of_ct (sh_three ha e2 hb) (law_any qa qb ca cb lb bs after turn hW (by omega) (by omega) e3)
end Go.Proofs.Ytkkgmgffkjeklaa.lawScanOrder
