/-
  The statement of UseOther ('said' form), out of its walk: every input is read, the walk shows that the call answers true and writes nothing that was there.
-/
import Derived.Test.YtcbpeampjhegcaaMgTop
import Derived.Test.YtcbpeampjhegcaaOpen2
import Derived.WalkKit
import Derived.ProofKit
import Derived.OpenShut
import Derived.ShutString
import Derived.SizedLaws
import Derived.Deep.CondSized
namespace Go.Proofs.Ytcbpeampjhegcaa.lawUseOther
open Go.ChangeShapes Go.WideShapes Go.ChangeAt Go.RowKit
open Go.ChangeMaps (open_string shut_string)
set_option linter.unusedVariables false

theorem own : ownKnob Try.prog.godebug = none := by kernel_rfl
theorem laidOut : laidOutB Try.prog = true := by kernel_rfl
set_option maxRecDepth 100000 in
theorem dec1000 {H : Type} (enc : TypeId × Value → H) (W : World) : ∀ fuel cs x, DataW.trod enc Try.prog W 0 (fun _ => true) true fuel 9 cs = some x → ∃ y, cs = (fun s : ByteArray => [Value.string s]) y ∧ (fun s : ByteArray => s.size ≤ maxLen) y := by
  intro fuel cs x h
  obtain ⟨z, rfl, _, hw⟩ := DataW.trod_string Try.underlying9 h
  exact ⟨z, rfl, hw⟩
set_option maxRecDepth 100000 in
theorem dec1001 {H : Type} (enc : TypeId × Value → H) (W : World) : ∀ fuel cs x, DataW.trod enc Try.prog W 0 (fun _ => true) true fuel 63 cs = some x → ∃ y, cs = (fun p : Int × ByteArray => [Value.int .i64 p.1, Value.string p.2]) y ∧ (fun p : Int × ByteArray => (Lit.int .i64 p.1).wf = true ∧ p.2.size ≤ maxLen) y := by
  intro fuel cs x h
  obtain ⟨xs, n, _, _, hl, hlen, hf⟩ := DataW.trod_struct Try.underlying63 h
  have hc : Try.prog.cellsOf 63 = 2 := by kernel_rfl
  rw [hc] at hl
  have c0 : Try.prog.cellsOf 3 = 1 := by kernel_rfl
  have c1 : Try.prog.cellsOf 9 = 1 := by kernel_rfl
  match cs, hl with
  | [z0, z1], _ =>
    have g0 : DataW.trod enc Try.prog W 0 (fun _ => true) true n 3 [z0] = xs[0]? := by have := hf 0 _ rfl; simpa [c0] using this
    obtain ⟨y0, l0⟩ : ∃ y, xs[0]? = some y := ⟨_, List.getElem?_eq_getElem (show 0 < xs.length by rw [hlen]; decide)⟩
    rw [l0] at g0
    obtain ⟨w0, e0, _, wf0⟩ := DataW.trod_int Try.underlying3 g0
    have g1 : DataW.trod enc Try.prog W 0 (fun _ => true) true n 9 [z1] = xs[1]? := by have := hf 1 _ rfl; simpa [c1] using this
    obtain ⟨y1, l1⟩ : ∃ y, xs[1]? = some y := ⟨_, List.getElem?_eq_getElem (show 1 < xs.length by rw [hlen]; decide)⟩
    rw [l1] at g1
    obtain ⟨w1, e1, _, wf1⟩ := DataW.trod_string Try.underlying9 g1
    refine ⟨(w0, w1), ?_, wf0, wf1⟩
    simp_all
set_option maxRecDepth 100000 in
theorem dec2000 {H : Type} (enc : TypeId × Value → H) (W : World) : ∀ fuel cs x, DataW.trod enc Try.prog W 0 (fun _ => true) true fuel 38 cs = some x → ∃ y, cs = (fun p : Int × Int => [Value.int .i64 p.1, Value.int .i64 p.2]) y ∧ (fun p : Int × Int => (Lit.int .i64 p.1).wf = true ∧ (Lit.int .i64 p.2).wf = true) y := by
  intro fuel cs x h
  obtain ⟨xs, n, _, _, hl, hlen, hf⟩ := DataW.trod_struct Try.underlying38 h
  have hc : Try.prog.cellsOf 38 = 2 := by kernel_rfl
  rw [hc] at hl
  have c0 : Try.prog.cellsOf 3 = 1 := by kernel_rfl
  have c1 : Try.prog.cellsOf 3 = 1 := by kernel_rfl
  match cs, hl with
  | [z0, z1], _ =>
    have g0 : DataW.trod enc Try.prog W 0 (fun _ => true) true n 3 [z0] = xs[0]? := by have := hf 0 _ rfl; simpa [c0] using this
    obtain ⟨y0, l0⟩ : ∃ y, xs[0]? = some y := ⟨_, List.getElem?_eq_getElem (show 0 < xs.length by rw [hlen]; decide)⟩
    rw [l0] at g0
    obtain ⟨w0, e0, _, wf0⟩ := DataW.trod_int Try.underlying3 g0
    have g1 : DataW.trod enc Try.prog W 0 (fun _ => true) true n 3 [z1] = xs[1]? := by have := hf 1 _ rfl; simpa [c1] using this
    obtain ⟨y1, l1⟩ : ∃ y, xs[1]? = some y := ⟨_, List.getElem?_eq_getElem (show 1 < xs.length by rw [hlen]; decide)⟩
    rw [l1] at g1
    obtain ⟨w1, e1, _, wf1⟩ := DataW.trod_int Try.underlying3 g1
    refine ⟨(w0, w1), ?_, wf0, wf1⟩
    simp_all
set_option maxRecDepth 100000 in
theorem dec2001 {H : Type} (enc : TypeId × Value → H) (W : World) : ∀ fuel cs x, DataW.trod enc Try.prog W 0 (fun _ => true) true fuel 3 cs = some x → ∃ y, cs = (fun z : Int => [Value.int .i64 z]) y ∧ (fun z : Int => (Lit.int .i64 z).wf = true) y := by
  intro fuel cs x h
  obtain ⟨z, rfl, _, hw⟩ := DataW.trod_int Try.underlying3 h
  exact ⟨z, rfl, hw⟩

set_option maxRecDepth 100000 in
theorem lifted (os : Os) (started : os.Started) (H : Type) (enc : TypeId × Value → H) :
    ReturnsInHanded {} Try.checked os 3 .any (Rows.useOtherSpec.pre6 enc Try.prog Try.f3 Rows.useOtherRow.domain false) (Rows.useOtherSpec.post enc Try.prog Try.f3 false true false false) := by
  refine returnsInHanded_of_change_sized (C := Try.checked) own started (by kernel_rfl) Try.func3
    (ChangeSpec.witness6 (enc := enc) (C := Try.checked) false ⟨#[], #[.agg #[.slice none 0 0, .slice none 0 0], .agg #[.slice none 0 0, .slice none 0 0], .int .i64 0, .string ⟨#[]⟩], []⟩ 8 (by kernel_rfl) (by kernel_rfl) (by kernel_rfl) (by kernel_rfl)) ?_
  intro W base args ds gs before hval0 hW hcnd hsz0 _
  have hsz : (DataW.weightsEach Try.prog (Try.f3.params.toList ++ Rows.useOtherSpec.plain.varTypes Try.prog) (ds ++ gs)).all (· ≤ reachBytes) = true := hsz0
  have hval : ∀ (j : Nat) t v, Try.f3.params[j]? = some t → args[j]? = some v → Value.okWide Try.prog W .any base t v := hval0
  have hW' := hW
  obtain ⟨p, q, hA0, hV, rfl, hfz, hnd⟩ := hW
  have hA : DataW.TrodAll enc Try.prog W 0 (fun _ => true) true Try.f3.params.toList args.toList ds p := hA0
  rw [Try.params3] at hA hval hsz
  obtain ⟨v0, vs0, d0, ds0, p0, q0, hargs, rfl, rfl, h0, r0⟩ := trodAll_cons hA
  obtain ⟨v1, vs1, d1, ds1, p1, q1, rfl, rfl, rfl, h1, r1⟩ := trodAll_cons r0
  obtain ⟨v2, vs2, d2, ds2, p2, q2, rfl, rfl, rfl, h2, r2⟩ := trodAll_cons r1
  obtain ⟨v3, vs3, d3, ds3, p3, q3, rfl, rfl, rfl, h3, r3⟩ := trodAll_cons r2
  obtain ⟨rfl, rfl, rfl⟩ := trodAll_nil r3
  obtain rfl : args = #[v0, v1, v2, v3] := by cases args; simp_all
  obtain ⟨rfl, rfl⟩ := trodVars_none hV
  have k0 := h0
  have lt0 : ∀ x ∈ p0, x.block < W.heap.size := by obtain ⟨m, hm⟩ := k0; exact DataW.trod_lt m _ _ _ hm
  have k1 := h1
  have lt1 : ∀ x ∈ p1, x.block < W.heap.size := by obtain ⟨m, hm⟩ := k1; exact DataW.trod_lt m _ _ _ hm
  have k2 := h2
  have lt2 : ∀ x ∈ p2, x.block < W.heap.size := by obtain ⟨m, hm⟩ := k2; exact DataW.trod_lt m _ _ _ hm
  have k3 := h3
  have lt3 : ∀ x ∈ p3, x.block < W.heap.size := by obtain ⟨m, hm⟩ := k3; exact DataW.trod_lt m _ _ _ hm
  obtain ⟨v0_0, v0_1, y0_0, y0_1, n0, rfl, rfl, rfl, t0_0, t0_1⟩ := Go.Joins.open_agg2 Try.underlying25 (by kernel_rfl) (by kernel_rfl) (hval 0 25 v0 rfl rfl) h0
  obtain ⟨xs0_0, hs0_0, hg0_0, hd0_0⟩ := kit.open_slice_cell (fun s : ByteArray => [Value.string s]) (fun s : ByteArray => s.size ≤ maxLen) Try.underlying22 1 (by kernel_rfl) (by decide) (dec1000 enc W) t0_0
  have hn0_0 : xs0_0.length * Try.prog.bytesOf 9 ≤ reachBytes := by
    rcases hd0_0 with ⟨_, rfl⟩ | ⟨el, sp, e9, hl⟩
    · simp
    · have h := sized_slice (kit.sized_agg hsz (j := 0) (t := 25) rfl rfl Try.underlying25) (j := 0) (t := 22) (e := 9) rfl (congrArg some e9) Try.underlying22
      rw [← hl]
      exact Nat.le_trans (Nat.mul_le_mul_right _ (Nat.le_add_right _ _)) h
  obtain ⟨xs0_1, hs0_1, hg0_1, hd0_1⟩ := kit.open_slice_cell (fun p : Int × ByteArray => [Value.int .i64 p.1, Value.string p.2]) (fun p : Int × ByteArray => (Lit.int .i64 p.1).wf = true ∧ p.2.size ≤ maxLen) Try.underlying23 2 (by kernel_rfl) (by decide) (dec1001 enc W) t0_1
  have hn0_1 : xs0_1.length * Try.prog.bytesOf 63 ≤ reachBytes := by
    rcases hd0_1 with ⟨_, rfl⟩ | ⟨el, sp, e9, hl⟩
    · simp
    · have h := sized_slice (kit.sized_agg hsz (j := 0) (t := 25) rfl rfl Try.underlying25) (j := 1) (t := 23) (e := 63) rfl (congrArg some e9) Try.underlying23
      rw [← hl]
      exact Nat.le_trans (Nat.mul_le_mul_right _ (Nat.le_add_right _ _)) h
  obtain ⟨v1_0, v1_1, y1_0, y1_1, n1, rfl, rfl, rfl, t1_0, t1_1⟩ := Go.Joins.open_agg2 Try.underlying29 (by kernel_rfl) (by kernel_rfl) (hval 1 29 v1 rfl rfl) h1
  obtain ⟨xs1_0, hs1_0, hg1_0, hd1_0⟩ := kit.open_slice_cell (fun p : Int × Int => [Value.int .i64 p.1, Value.int .i64 p.2]) (fun p : Int × Int => (Lit.int .i64 p.1).wf = true ∧ (Lit.int .i64 p.2).wf = true) Try.underlying26 2 (by kernel_rfl) (by decide) (dec2000 enc W) t1_0
  have hn1_0 : xs1_0.length * Try.prog.bytesOf 38 ≤ reachBytes := by
    rcases hd1_0 with ⟨_, rfl⟩ | ⟨el, sp, e9, hl⟩
    · simp
    · have h := sized_slice (kit.sized_agg hsz (j := 1) (t := 29) rfl rfl Try.underlying29) (j := 0) (t := 26) (e := 38) rfl (congrArg some e9) Try.underlying26
      rw [← hl]
      exact Nat.le_trans (Nat.mul_le_mul_right _ (Nat.le_add_right _ _)) h
  obtain ⟨xs1_1, hs1_1, hg1_1, hd1_1⟩ := kit.open_slice_cell (fun z : Int => [Value.int .i64 z]) (fun z : Int => (Lit.int .i64 z).wf = true) Try.underlying27 1 (by kernel_rfl) (by decide) (dec2001 enc W) t1_1
  have hn1_1 : xs1_1.length * Try.prog.bytesOf 3 ≤ reachBytes := by
    rcases hd1_1 with ⟨_, rfl⟩ | ⟨el, sp, e9, hl⟩
    · simp
    · have h := sized_slice (kit.sized_agg hsz (j := 1) (t := 29) rfl rfl Try.underlying29) (j := 1) (t := 27) (e := 3) rfl (congrArg some e9) Try.underlying27
      rw [← hl]
      exact Nat.le_trans (Nat.mul_le_mul_right _ (Nat.le_add_right _ _)) h
  obtain ⟨a2, rfl, rfl, rfl, wf2⟩ := open_int Try.underlying3 (hval 2 3 v2 rfl rfl) h2
  obtain ⟨s3, rfl, rfl, rfl, _⟩ := open_string Try.underlying9 (hval 3 9 v3 rfl rfl) h3
  have hs3 : s3.size ≤ reachBytes := by have := sized_string hsz (j := 3) (t := 9) rfl rfl; simpa using this
  clear hA0 hval0
  refine (walk W v0_0 xs0_0 hs0_0 hg0_0 hn0_0 v0_1 xs0_1 hs0_1 hg0_1 hn0_1 v1_0 xs1_0 hs1_0 hg1_0 hn1_0 v1_1 xs1_1 hs1_1 hg1_1 hn1_1 a2 wf2 s3 hs3).mono fun e W' ⟨he, bel⟩ => ?_
  subst he
  exact ⟨_, rfl, _, _, _, [], _, [], hW', trodAll_mk1 (shut_bool Try.underlying4 _), (trodAll_cons_mk (Below.trod laidOut (by kernel_rfl) (of_decide_eq_true (by kernel_rfl)) k0 bel lt0) (trodAll_cons_mk (Below.trod laidOut (by kernel_rfl) (of_decide_eq_true (by kernel_rfl)) k1 bel lt1) (trodAll_cons_mk (Below.trod laidOut (by kernel_rfl) (of_decide_eq_true (by kernel_rfl)) k2 bel lt2) (trodAll_cons_mk (Below.trod laidOut (by kernel_rfl) (of_decide_eq_true (by kernel_rfl)) k3 bel lt3) trodAll_mk0)))), rfl, bel.frame _, fun h => by cases h⟩

theorem over : Rows.useOtherRow.holds Try.pinned (OpenSpec.ofChange Rows.useOtherSpec) :=
  OpenClaim.holds_of_wide 3 Try.f3 rfl rfl rfl rfl rfl rfl rfl ⟨rfl, rfl, rfl, rfl, rfl⟩ rfl rfl rfl rfl rfl (by kernel_rfl) Try.func3 (by kernel_rfl)
    (of_decide_eq_true (by kernel_rfl)) (by unfold Func.isWrapper; first | (rw [if_pos (by decide +kernel)]; kernel_rfl) | (rw [if_neg (by decide +kernel)]; exact ⟨rfl, rfl⟩))
    (fun os started H enc _ => lifted os started H enc)

/-- The statement. -/
theorem proved : Rows.UseOtherSaid :=
  over
#print axioms proved
end Go.Proofs.Ytcbpeampjhegcaa.lawUseOther
