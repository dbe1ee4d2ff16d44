/-
  The statement of ScanFront ('said' form), out of its walk: every input is read, the walk shows that the call answers true and writes nothing that was there.
-/
import Derived.Test.YtcaefeooneomnaaMgTop
import Derived.Test.YtcaefeooneomnaaOpen2
import Derived.WalkKit
import Derived.ProofKit
import Derived.OpenShut
import Derived.ShutString
import Derived.SizedLaws
import Derived.Deep.CondSized
namespace Go.Proofs.Ytcaefeooneomnaa.lawScanFront
open Go.ChangeShapes Go.WideShapes Go.ChangeAt Go.RowKit
open Go.ChangeMaps (open_string shut_string)
set_option linter.unusedVariables false

theorem own : ownKnob Try.prog.godebug = none := by kernel_rfl
theorem laidOut : laidOutB Try.prog = true := by kernel_rfl
set_option maxRecDepth 100000 in
theorem dec1000 {H : Type} (enc : TypeId × Value → H) (W : World) : ∀ fuel cs x, DataW.trod enc Try.prog W 0 (fun _ => true) true fuel 9 cs = some x → ∃ y, cs = (fun s : ByteArray => [Value.string s]) y ∧ (fun s : ByteArray => s.size ≤ maxLen) y := by
  intro fuel cs x h
  obtain ⟨z, rfl, _, hw⟩ := DataW.trod_string Try.underlying9 h
  exact ⟨z, rfl, hw⟩
set_option maxRecDepth 100000 in
theorem dec1001 {H : Type} (enc : TypeId × Value → H) (W : World) : ∀ fuel cs x, DataW.trod enc Try.prog W 0 (fun _ => true) true fuel 105 cs = some x → ∃ y, cs = (fun p : Int × ByteArray => [Value.int .i64 p.1, Value.string p.2]) y ∧ (fun p : Int × ByteArray => (Lit.int .i64 p.1).wf = true ∧ p.2.size ≤ maxLen) y := by
  intro fuel cs x h
  obtain ⟨xs, n, _, _, hl, hlen, hf⟩ := DataW.trod_struct Try.underlying105 h
  have hc : Try.prog.cellsOf 105 = 2 := by kernel_rfl
  rw [hc] at hl
  have c0 : Try.prog.cellsOf 3 = 1 := by kernel_rfl
  have c1 : Try.prog.cellsOf 9 = 1 := by kernel_rfl
  match cs, hl with
  | [z0, z1], _ =>
    have g0 : DataW.trod enc Try.prog W 0 (fun _ => true) true n 3 [z0] = xs[0]? := by have := hf 0 _ rfl; simpa [c0] using this
    obtain ⟨y0, l0⟩ : ∃ y, xs[0]? = some y := ⟨_, List.getElem?_eq_getElem (show 0 < xs.length by rw [hlen]; decide)⟩
    rw [l0] at g0
    obtain ⟨w0, e0, _, wf0⟩ := DataW.trod_int Try.underlying3 g0
    have g1 : DataW.trod enc Try.prog W 0 (fun _ => true) true n 9 [z1] = xs[1]? := by have := hf 1 _ rfl; simpa [c1] using this
    obtain ⟨y1, l1⟩ : ∃ y, xs[1]? = some y := ⟨_, List.getElem?_eq_getElem (show 1 < xs.length by rw [hlen]; decide)⟩
    rw [l1] at g1
    obtain ⟨w1, e1, _, wf1⟩ := DataW.trod_string Try.underlying9 g1
    refine ⟨(w0, w1), ?_, wf0, wf1⟩
    simp_all

set_option maxRecDepth 100000 in
theorem lifted (os : Os) (started : os.Started) (H : Type) (enc : TypeId × Value → H) :
    ReturnsInHanded {} Try.checked os 4 .any (Rows.scanFrontSpec.pre6 enc Try.prog Try.f4 Rows.scanFrontRow.domain false) (Rows.scanFrontSpec.post enc Try.prog Try.f4 false true false false) := by
  refine returnsInHanded_of_change_sized (C := Try.checked) own started (by kernel_rfl) Try.func4
    (ChangeSpec.witness6 (enc := enc) (C := Try.checked) false ⟨#[], #[.agg #[.slice none 0 0, .slice none 0 0], .int .i64 0, .int .i64 0], []⟩ 8 (by kernel_rfl) (by kernel_rfl) (by kernel_rfl) (by kernel_rfl)) ?_
  intro W base args ds gs before hval0 hW hcnd hsz0 _
  have hsz : (DataW.weightsEach Try.prog (Try.f4.params.toList ++ Rows.scanFrontSpec.plain.varTypes Try.prog) (ds ++ gs)).all (· ≤ reachBytes) = true := hsz0
  have hval : ∀ (j : Nat) t v, Try.f4.params[j]? = some t → args[j]? = some v → Value.okWide Try.prog W .any base t v := hval0
  have hW' := hW
  obtain ⟨p, q, hA0, hV, rfl, hfz, hnd⟩ := hW
  have hA : DataW.TrodAll enc Try.prog W 0 (fun _ => true) true Try.f4.params.toList args.toList ds p := hA0
  rw [Try.params4] at hA hval hsz
  obtain ⟨v0, vs0, d0, ds0, p0, q0, hargs, rfl, rfl, h0, r0⟩ := trodAll_cons hA
  obtain ⟨v1, vs1, d1, ds1, p1, q1, rfl, rfl, rfl, h1, r1⟩ := trodAll_cons r0
  obtain ⟨v2, vs2, d2, ds2, p2, q2, rfl, rfl, rfl, h2, r2⟩ := trodAll_cons r1
  obtain ⟨rfl, rfl, rfl⟩ := trodAll_nil r2
  obtain rfl : args = #[v0, v1, v2] := by cases args; simp_all
  obtain ⟨rfl, rfl⟩ := trodVars_none hV
  have k0 := h0
  have lt0 : ∀ x ∈ p0, x.block < W.heap.size := by obtain ⟨m, hm⟩ := k0; exact DataW.trod_lt m _ _ _ hm
  have k1 := h1
  have lt1 : ∀ x ∈ p1, x.block < W.heap.size := by obtain ⟨m, hm⟩ := k1; exact DataW.trod_lt m _ _ _ hm
  have k2 := h2
  have lt2 : ∀ x ∈ p2, x.block < W.heap.size := by obtain ⟨m, hm⟩ := k2; exact DataW.trod_lt m _ _ _ hm
  obtain ⟨v0_0, v0_1, y0_0, y0_1, n0, rfl, rfl, rfl, t0_0, t0_1⟩ := Go.Joins.open_agg2 Try.underlying37 (by kernel_rfl) (by kernel_rfl) (hval 0 37 v0 rfl rfl) h0
  obtain ⟨xs0_0, hs0_0, hg0_0, hd0_0⟩ := kit.open_slice_cell (fun s : ByteArray => [Value.string s]) (fun s : ByteArray => s.size ≤ maxLen) Try.underlying34 1 (by kernel_rfl) (by decide) (dec1000 enc W) t0_0
  have hn0_0 : xs0_0.length * Try.prog.bytesOf 9 ≤ reachBytes := by
    rcases hd0_0 with ⟨_, rfl⟩ | ⟨el, sp, e9, hl⟩
    · simp
    · have h := sized_slice (kit.sized_agg hsz (j := 0) (t := 37) rfl rfl Try.underlying37) (j := 0) (t := 34) (e := 9) rfl (congrArg some e9) Try.underlying34
      rw [← hl]
      exact Nat.le_trans (Nat.mul_le_mul_right _ (Nat.le_add_right _ _)) h
  obtain ⟨xs0_1, hs0_1, hg0_1, hd0_1⟩ := kit.open_slice_cell (fun p : Int × ByteArray => [Value.int .i64 p.1, Value.string p.2]) (fun p : Int × ByteArray => (Lit.int .i64 p.1).wf = true ∧ p.2.size ≤ maxLen) Try.underlying35 2 (by kernel_rfl) (by decide) (dec1001 enc W) t0_1
  have hn0_1 : xs0_1.length * Try.prog.bytesOf 105 ≤ reachBytes := by
    rcases hd0_1 with ⟨_, rfl⟩ | ⟨el, sp, e9, hl⟩
    · simp
    · have h := sized_slice (kit.sized_agg hsz (j := 0) (t := 37) rfl rfl Try.underlying37) (j := 1) (t := 35) (e := 105) rfl (congrArg some e9) Try.underlying35
      rw [← hl]
      exact Nat.le_trans (Nat.mul_le_mul_right _ (Nat.le_add_right _ _)) h
  obtain ⟨a1, rfl, rfl, rfl, wf1⟩ := open_int Try.underlying3 (hval 1 3 v1 rfl rfl) h1
  obtain ⟨a2, rfl, rfl, rfl, wf2⟩ := open_int Try.underlying3 (hval 2 3 v2 rfl rfl) h2
  clear hA0 hval0
  refine (walk W v0_0 xs0_0 hs0_0 hg0_0 hn0_0 v0_1 xs0_1 hs0_1 hg0_1 hn0_1 a1 wf1 a2 wf2).mono fun e W' ⟨he, bel⟩ => ?_
  subst he
  exact ⟨_, rfl, _, _, _, [], _, [], hW', trodAll_mk1 (shut_bool Try.underlying4 _), (trodAll_cons_mk (Below.trod laidOut (by kernel_rfl) (of_decide_eq_true (by kernel_rfl)) k0 bel lt0) (trodAll_cons_mk (Below.trod laidOut (by kernel_rfl) (of_decide_eq_true (by kernel_rfl)) k1 bel lt1) (trodAll_cons_mk (Below.trod laidOut (by kernel_rfl) (of_decide_eq_true (by kernel_rfl)) k2 bel lt2) trodAll_mk0))), rfl, bel.frame _, fun h => by cases h⟩

theorem over : Rows.scanFrontRow.holds Try.pinned (OpenSpec.ofChange Rows.scanFrontSpec) :=
  OpenClaim.holds_of_wide 4 Try.f4 rfl rfl rfl rfl rfl rfl rfl ⟨rfl, rfl, rfl, rfl, rfl⟩ rfl rfl rfl rfl rfl (by kernel_rfl) Try.func4 (by kernel_rfl)
    (of_decide_eq_true (by kernel_rfl)) (by unfold Func.isWrapper; first | (rw [if_pos (by decide +kernel)]; kernel_rfl) | (rw [if_neg (by decide +kernel)]; exact ⟨rfl, rfl⟩))
    (fun os started H enc _ => lifted os started H enc)

/-- The statement. -/
theorem proved : Rows.ScanFrontSaid :=
  over
#print axioms proved
end Go.Proofs.Ytcaefeooneomnaa.lawScanFront
