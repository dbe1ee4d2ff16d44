/-
  The statement of BlobSplit ('said' form), out of its walk: every input is read, the walk shows that the call answers true and writes nothing that was there.
-/
import Derived.Test.YtkkgmgffkjeklaaWalkBlobSplit
import Derived.Test.YtkkgmgffkjeklaaOpen
import Derived.WalkKit
import Derived.ProofKit
import Derived.OpenShut
import Derived.ShutString
import Derived.SizedLaws
import Derived.Deep.CondSized
namespace Go.Proofs.Ytkkgmgffkjeklaa.lawBlobSplit
open Go.ChangeShapes Go.WideShapes Go.ChangeAt Go.RowKit
open Go.ChangeMaps (open_string shut_string)
set_option linter.unusedVariables false

theorem own : ownKnob Try.prog.godebug = none := by kernel_rfl
theorem laidOut : laidOutB Try.prog = true := by kernel_rfl
set_option maxRecDepth 100000 in
theorem dec0 {H : Type} (enc : TypeId × Value → H) (W : World) : ∀ fuel cs x, DataW.trod enc Try.prog W 0 (fun _ => true) true fuel 30 cs = some x → ∃ y, cs = (fun p : Int × Int × Int × ByteArray => [Value.int .i64 p.1, Value.int .i64 p.2.1, Value.int .i64 p.2.2.1, Value.string p.2.2.2]) y ∧ (fun p : Int × Int × Int × ByteArray => (Lit.int .i64 p.1).wf = true ∧ (Lit.int .i64 p.2.1).wf = true ∧ (Lit.int .i64 p.2.2.1).wf = true ∧ p.2.2.2.size ≤ maxLen) y := by
  intro fuel cs x h
  obtain ⟨xs, n, _, _, hl, hlen, hf⟩ := DataW.trod_struct Try.underlying30 h
  have hc : Try.prog.cellsOf 30 = 4 := by kernel_rfl
  rw [hc] at hl
  have c0 : Try.prog.cellsOf 3 = 1 := by kernel_rfl
  have c1 : Try.prog.cellsOf 3 = 1 := by kernel_rfl
  have c2 : Try.prog.cellsOf 3 = 1 := by kernel_rfl
  have c3 : Try.prog.cellsOf 9 = 1 := by kernel_rfl
  match cs, hl with
  | [z0, z1, z2, z3], _ =>
    have g0 : DataW.trod enc Try.prog W 0 (fun _ => true) true n 3 [z0] = xs[0]? := by have := hf 0 _ rfl; simpa [c0] using this
    obtain ⟨y0, l0⟩ : ∃ y, xs[0]? = some y := ⟨_, List.getElem?_eq_getElem (show 0 < xs.length by rw [hlen]; decide)⟩
    rw [l0] at g0
    obtain ⟨w0, e0, _, wf0⟩ := DataW.trod_int Try.underlying3 g0
    have g1 : DataW.trod enc Try.prog W 0 (fun _ => true) true n 3 [z1] = xs[1]? := by have := hf 1 _ rfl; simpa [c1] using this
    obtain ⟨y1, l1⟩ : ∃ y, xs[1]? = some y := ⟨_, List.getElem?_eq_getElem (show 1 < xs.length by rw [hlen]; decide)⟩
    rw [l1] at g1
    obtain ⟨w1, e1, _, wf1⟩ := DataW.trod_int Try.underlying3 g1
    have g2 : DataW.trod enc Try.prog W 0 (fun _ => true) true n 3 [z2] = xs[2]? := by have := hf 2 _ rfl; simpa [c2] using this
    obtain ⟨y2, l2⟩ : ∃ y, xs[2]? = some y := ⟨_, List.getElem?_eq_getElem (show 2 < xs.length by rw [hlen]; decide)⟩
    rw [l2] at g2
    obtain ⟨w2, e2, _, wf2⟩ := DataW.trod_int Try.underlying3 g2
    have g3 : DataW.trod enc Try.prog W 0 (fun _ => true) true n 9 [z3] = xs[3]? := by have := hf 3 _ rfl; simpa [c3] using this
    obtain ⟨y3, l3⟩ : ∃ y, xs[3]? = some y := ⟨_, List.getElem?_eq_getElem (show 3 < xs.length by rw [hlen]; decide)⟩
    rw [l3] at g3
    obtain ⟨w3, e3, _, wf3⟩ := DataW.trod_string Try.underlying9 g3
    refine ⟨(w0, w1, w2, w3), ?_, wf0, wf1, wf2, wf3⟩
    simp_all

set_option maxRecDepth 100000 in
theorem lifted (os : Os) (started : os.Started) (H : Type) (enc : TypeId × Value → H) :
    ReturnsInHanded {} Try.checked os 4 .any (Rows.blobSplitSpec.pre6 enc Try.prog Try.f4 Rows.blobSplitRow.domain false) (Rows.blobSplitSpec.post enc Try.prog Try.f4 false true false false) := by
  refine returnsInHanded_of_change_sized (C := Try.checked) own started (by kernel_rfl) Try.func4
    (ChangeSpec.witness6 (enc := enc) (C := Try.checked) false ⟨#[], #[.slice none 0 0], []⟩ 8 (by kernel_rfl) (by kernel_rfl) (by kernel_rfl) (by kernel_rfl)) ?_
  intro W base args ds gs before hval0 hW hcnd hsz0 _
  have hsz : (DataW.weightsEach Try.prog (Try.f4.params.toList ++ Rows.blobSplitSpec.plain.varTypes Try.prog) (ds ++ gs)).all (· ≤ reachBytes) = true := hsz0
  have hval : ∀ (j : Nat) t v, Try.f4.params[j]? = some t → args[j]? = some v → Value.okWide Try.prog W .any base t v := hval0
  have hW' := hW
  obtain ⟨p, q, hA0, hV, rfl, hfz, hnd⟩ := hW
  have hA : DataW.TrodAll enc Try.prog W 0 (fun _ => true) true Try.f4.params.toList args.toList ds p := hA0
  rw [Try.params4] at hA hval hsz
  obtain ⟨v0, vs0, d0, ds0, p0, q0, hargs, rfl, rfl, h0, r0⟩ := trodAll_cons hA
  obtain ⟨rfl, rfl, rfl⟩ := trodAll_nil r0
  obtain rfl : args = #[v0] := by cases args; simp_all
  obtain ⟨rfl, rfl⟩ := trodVars_none hV
  have k0 := h0
  have lt0 : ∀ x ∈ p0, x.block < W.heap.size := by obtain ⟨m, hm⟩ := k0; exact DataW.trod_lt m _ _ _ hm
  obtain ⟨xs0, hs0, hg0, hd0⟩ := kit.open_slice_by (fun p : Int × Int × Int × ByteArray => [Value.int .i64 p.1, Value.int .i64 p.2.1, Value.int .i64 p.2.2.1, Value.string p.2.2.2]) (fun p : Int × Int × Int × ByteArray => (Lit.int .i64 p.1).wf = true ∧ (Lit.int .i64 p.2.1).wf = true ∧ (Lit.int .i64 p.2.2.1).wf = true ∧ p.2.2.2.size ≤ maxLen) Try.underlying27 4 (by kernel_rfl) (by decide) (dec0 enc W) (hval 0 27 v0 rfl rfl) h0
  have hn0 : xs0.length * Try.prog.bytesOf 30 ≤ reachBytes := by
    rcases hd0 with ⟨rfl, rfl⟩ | ⟨el, sp, rfl, hl⟩
    · simp
    · have h := sized_slice hsz (j := 0) (t := 27) (e := 30) rfl rfl Try.underlying27
      rw [← hl]
      exact Nat.le_trans (Nat.mul_le_mul_right _ (Nat.le_add_right _ _)) h
  clear hA0 hval0
  refine (walk W v0 xs0 hs0 hg0 hn0).mono fun e W' ⟨he, bel⟩ => ?_
  subst he
  exact ⟨_, rfl, _, _, _, [], _, [], hW', trodAll_mk1 (shut_bool Try.underlying4 _), (trodAll_cons_mk (Below.trod laidOut (by kernel_rfl) (of_decide_eq_true (by kernel_rfl)) k0 bel lt0) trodAll_mk0), rfl, bel.frame _, fun h => by cases h⟩

theorem over : Rows.blobSplitRow.holds Try.pinned (OpenSpec.ofChange Rows.blobSplitSpec) :=
  OpenClaim.holds_of_wide 4 Try.f4 rfl rfl rfl rfl rfl rfl rfl ⟨rfl, rfl, rfl, rfl, rfl⟩ rfl rfl rfl rfl rfl (by kernel_rfl) Try.func4 (by kernel_rfl)
    (of_decide_eq_true (by kernel_rfl)) (by unfold Func.isWrapper; first | (rw [if_pos (by decide +kernel)]; kernel_rfl) | (rw [if_neg (by decide +kernel)]; exact ⟨rfl, rfl⟩))
    (fun os started H enc _ => lifted os started H enc)

/-- The statement. -/
theorem proved : Rows.BlobSplitSaid :=
  over
#print axioms proved
end Go.Proofs.Ytkkgmgffkjeklaa.lawBlobSplit
