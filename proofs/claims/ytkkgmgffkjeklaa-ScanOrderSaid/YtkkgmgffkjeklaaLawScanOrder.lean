/-
  The statement of ScanOrder ('said' form), out of its walk: every input is read, the walk shows that the call answers true and writes nothing that was there.
-/
import Derived.Test.YtkkgmgffkjeklaaWalkScanOrder
import Derived.Test.YtkkgmgffkjeklaaOpen
import Derived.Test.YtkkgmgffkjeklaaOpen2
import Derived.WalkKit
import Derived.ProofKit
import Derived.OpenShut
import Derived.ShutString
import Derived.SizedLaws
import Derived.Deep.CondSized
namespace Go.Proofs.Ytkkgmgffkjeklaa.lawScanOrder
open Go.ChangeShapes Go.WideShapes Go.ChangeAt Go.RowKit
open Go.ChangeMaps (open_string shut_string)
set_option linter.unusedVariables false

theorem own : ownKnob Try.prog.godebug = none := by kernel_rfl
theorem laidOut : laidOutB Try.prog = true := by kernel_rfl
set_option maxRecDepth 100000 in
theorem dec50000 {H : Type} (enc : TypeId × Value → H) (W : World) : ∀ fuel cs x, DataW.trod enc Try.prog W 0 (fun _ => true) true fuel 30 cs = some x → ∃ y, cs = (fun p : Int × Int × Int × ByteArray => [Value.int .i64 p.1, Value.int .i64 p.2.1, Value.int .i64 p.2.2.1, Value.string p.2.2.2]) y ∧ (fun p : Int × Int × Int × ByteArray => (Lit.int .i64 p.1).wf = true ∧ (Lit.int .i64 p.2.1).wf = true ∧ (Lit.int .i64 p.2.2.1).wf = true ∧ p.2.2.2.size ≤ maxLen) y := by
  intro fuel cs x h
  obtain ⟨xs, n, _, _, hl, hlen, hf⟩ := DataW.trod_struct Try.underlying30 h
  have hc : Try.prog.cellsOf 30 = 4 := by kernel_rfl
  rw [hc] at hl
  have c0 : Try.prog.cellsOf 3 = 1 := by kernel_rfl
  have c1 : Try.prog.cellsOf 3 = 1 := by kernel_rfl
  have c2 : Try.prog.cellsOf 3 = 1 := by kernel_rfl
  have c3 : Try.prog.cellsOf 9 = 1 := by kernel_rfl
  match cs, hl with
  | [z0, z1, z2, z3], _ =>
    have g0 : DataW.trod enc Try.prog W 0 (fun _ => true) true n 3 [z0] = xs[0]? := by have := hf 0 _ rfl; simpa [c0] using this
    obtain ⟨y0, l0⟩ : ∃ y, xs[0]? = some y := ⟨_, List.getElem?_eq_getElem (show 0 < xs.length by rw [hlen]; decide)⟩
    rw [l0] at g0
    obtain ⟨w0, e0, _, wf0⟩ := DataW.trod_int Try.underlying3 g0
    have g1 : DataW.trod enc Try.prog W 0 (fun _ => true) true n 3 [z1] = xs[1]? := by have := hf 1 _ rfl; simpa [c1] using this
    obtain ⟨y1, l1⟩ : ∃ y, xs[1]? = some y := ⟨_, List.getElem?_eq_getElem (show 1 < xs.length by rw [hlen]; decide)⟩
    rw [l1] at g1
    obtain ⟨w1, e1, _, wf1⟩ := DataW.trod_int Try.underlying3 g1
    have g2 : DataW.trod enc Try.prog W 0 (fun _ => true) true n 3 [z2] = xs[2]? := by have := hf 2 _ rfl; simpa [c2] using this
    obtain ⟨y2, l2⟩ : ∃ y, xs[2]? = some y := ⟨_, List.getElem?_eq_getElem (show 2 < xs.length by rw [hlen]; decide)⟩
    rw [l2] at g2
    obtain ⟨w2, e2, _, wf2⟩ := DataW.trod_int Try.underlying3 g2
    have g3 : DataW.trod enc Try.prog W 0 (fun _ => true) true n 9 [z3] = xs[3]? := by have := hf 3 _ rfl; simpa [c3] using this
    obtain ⟨y3, l3⟩ : ∃ y, xs[3]? = some y := ⟨_, List.getElem?_eq_getElem (show 3 < xs.length by rw [hlen]; decide)⟩
    rw [l3] at g3
    obtain ⟨w3, e3, _, wf3⟩ := DataW.trod_string Try.underlying9 g3
    refine ⟨(w0, w1, w2, w3), ?_, wf0, wf1, wf2, wf3⟩
    simp_all
set_option maxRecDepth 100000 in
theorem dec0 {H : Type} (enc : TypeId × Value → H) (W : World) : ∀ fuel cs x, DataW.trod enc Try.prog W 0 (fun _ => true) true fuel 27 cs = some x → ∃ y, cs = (fun y : Value × List (Int × Int × Int × ByteArray) => [y.1]) y ∧ (fun y : Value × List (Int × Int × Int × ByteArray) => kit.SliceAt W 4 y.1 (y.2.map (fun p : Int × Int × Int × ByteArray => [Value.int .i64 p.1, Value.int .i64 p.2.1, Value.int .i64 p.2.2.1, Value.string p.2.2.2])) ∧ ∀ x ∈ y.2, (fun p : Int × Int × Int × ByteArray => (Lit.int .i64 p.1).wf = true ∧ (Lit.int .i64 p.2.1).wf = true ∧ (Lit.int .i64 p.2.2.1).wf = true ∧ p.2.2.2.size ≤ maxLen) x) y := by
  intro fuel cs x h
  have hv : ∃ v, cs = [v] := by
    rcases DataW.trod_slice Try.underlying27 h with ⟨hcs, _⟩ | ⟨_, _, _, _, _, _, _, hcs, _⟩
    · exact ⟨_, hcs⟩
    · exact ⟨_, hcs⟩
  obtain ⟨v, rfl⟩ := hv
  obtain ⟨xs, hs, hg, _⟩ := kit.open_slice_cell (fun p : Int × Int × Int × ByteArray => [Value.int .i64 p.1, Value.int .i64 p.2.1, Value.int .i64 p.2.2.1, Value.string p.2.2.2]) (fun p : Int × Int × Int × ByteArray => (Lit.int .i64 p.1).wf = true ∧ (Lit.int .i64 p.2.1).wf = true ∧ (Lit.int .i64 p.2.2.1).wf = true ∧ p.2.2.2.size ≤ maxLen) Try.underlying27 4 (by kernel_rfl) (by decide) (dec50000 enc W) h
  exact ⟨(v, xs), rfl, hs, hg⟩
set_option maxRecDepth 100000 in
theorem dec1 {H : Type} (enc : TypeId × Value → H) (W : World) : ∀ fuel cs x, DataW.trod enc Try.prog W 0 (fun _ => true) true fuel 4 cs = some x → ∃ y, cs = (fun b : Bool => [Value.bool b]) y ∧ (fun b : Bool => True) y := by
  intro fuel cs x h
  obtain ⟨z, rfl, _⟩ := DataW.trod_bool Try.underlying4 h
  exact ⟨z, rfl, trivial⟩

set_option maxRecDepth 100000 in
theorem lifted (os : Os) (started : os.Started) (H : Type) (enc : TypeId × Value → H) :
    ReturnsInHanded {} Try.checked os 6 .any (Rows.scanOrderSpec.pre6 enc Try.prog Try.f6 Rows.scanOrderRow.domain false) (Rows.scanOrderSpec.post enc Try.prog Try.f6 false true false false) := by
  refine returnsInHanded_of_change_sized (C := Try.checked) own started (by kernel_rfl) Try.func6
    (ChangeSpec.witness6 (enc := enc) (C := Try.checked) false ⟨#[], #[.slice none 0 0, .slice none 0 0, .int .i64 0, .int .i64 0], []⟩ 8 (by kernel_rfl) (by kernel_rfl) (by kernel_rfl) (by kernel_rfl)) ?_
  intro W base args ds gs before hval0 hW hcnd hsz0 _
  have hsz : (DataW.weightsEach Try.prog (Try.f6.params.toList ++ Rows.scanOrderSpec.plain.varTypes Try.prog) (ds ++ gs)).all (· ≤ reachBytes) = true := hsz0
  have hval : ∀ (j : Nat) t v, Try.f6.params[j]? = some t → args[j]? = some v → Value.okWide Try.prog W .any base t v := hval0
  have hW' := hW
  obtain ⟨p, q, hA0, hV, rfl, hfz, hnd⟩ := hW
  have hA : DataW.TrodAll enc Try.prog W 0 (fun _ => true) true Try.f6.params.toList args.toList ds p := hA0
  rw [Try.params6] at hA hval hsz
  obtain ⟨v0, vs0, d0, ds0, p0, q0, hargs, rfl, rfl, h0, r0⟩ := trodAll_cons hA
  obtain ⟨v1, vs1, d1, ds1, p1, q1, rfl, rfl, rfl, h1, r1⟩ := trodAll_cons r0
  obtain ⟨v2, vs2, d2, ds2, p2, q2, rfl, rfl, rfl, h2, r2⟩ := trodAll_cons r1
  obtain ⟨v3, vs3, d3, ds3, p3, q3, rfl, rfl, rfl, h3, r3⟩ := trodAll_cons r2
  obtain ⟨rfl, rfl, rfl⟩ := trodAll_nil r3
  obtain rfl : args = #[v0, v1, v2, v3] := by cases args; simp_all
  obtain ⟨rfl, rfl⟩ := trodVars_none hV
  have k0 := h0
  have lt0 : ∀ x ∈ p0, x.block < W.heap.size := by obtain ⟨m, hm⟩ := k0; exact DataW.trod_lt m _ _ _ hm
  have k1 := h1
  have lt1 : ∀ x ∈ p1, x.block < W.heap.size := by obtain ⟨m, hm⟩ := k1; exact DataW.trod_lt m _ _ _ hm
  have k2 := h2
  have lt2 : ∀ x ∈ p2, x.block < W.heap.size := by obtain ⟨m, hm⟩ := k2; exact DataW.trod_lt m _ _ _ hm
  have k3 := h3
  have lt3 : ∀ x ∈ p3, x.block < W.heap.size := by obtain ⟨m, hm⟩ := k3; exact DataW.trod_lt m _ _ _ hm
  obtain ⟨xs0, hs0, hg0, hd0⟩ := kit.open_slice_by (fun y : Value × List (Int × Int × Int × ByteArray) => [y.1]) (fun y : Value × List (Int × Int × Int × ByteArray) => kit.SliceAt W 4 y.1 (y.2.map (fun p : Int × Int × Int × ByteArray => [Value.int .i64 p.1, Value.int .i64 p.2.1, Value.int .i64 p.2.2.1, Value.string p.2.2.2])) ∧ ∀ x ∈ y.2, (fun p : Int × Int × Int × ByteArray => (Lit.int .i64 p.1).wf = true ∧ (Lit.int .i64 p.2.1).wf = true ∧ (Lit.int .i64 p.2.2.1).wf = true ∧ p.2.2.2.size ≤ maxLen) x) Try.underlying52 1 (by kernel_rfl) (by decide) (dec0 enc W) (hval 0 52 v0 rfl rfl) h0
  have hn0 : xs0.length * Try.prog.bytesOf 27 ≤ reachBytes := by
    rcases hd0 with ⟨rfl, rfl⟩ | ⟨el, sp, rfl, hl⟩
    · simp
    · have h := sized_slice hsz (j := 0) (t := 52) (e := 27) rfl rfl Try.underlying52
      rw [← hl]
      exact Nat.le_trans (Nat.mul_le_mul_right _ (Nat.le_add_right _ _)) h
  obtain ⟨xs1, hs1, hg1, hd1⟩ := kit.open_slice_by (fun b : Bool => [Value.bool b]) (fun b : Bool => True) Try.underlying53 1 (by kernel_rfl) (by decide) (dec1 enc W) (hval 1 53 v1 rfl rfl) h1
  have hn1 : xs1.length * Try.prog.bytesOf 4 ≤ reachBytes := by
    rcases hd1 with ⟨rfl, rfl⟩ | ⟨el, sp, rfl, hl⟩
    · simp
    · have h := sized_slice hsz (j := 1) (t := 53) (e := 4) rfl rfl Try.underlying53
      rw [← hl]
      exact Nat.le_trans (Nat.mul_le_mul_right _ (Nat.le_add_right _ _)) h
  obtain ⟨a2, rfl, rfl, rfl, wf2⟩ := open_int Try.underlying3 (hval 2 3 v2 rfl rfl) h2
  obtain ⟨a3, rfl, rfl, rfl, wf3⟩ := open_int Try.underlying3 (hval 3 3 v3 rfl rfl) h3
  clear hA0 hval0
  refine (walk W v0 xs0 hs0 hg0 hn0 v1 xs1 hs1 hg1 hn1 a2 wf2 a3 wf3).mono fun e W' ⟨he, bel⟩ => ?_
  subst he
  exact ⟨_, rfl, _, _, _, [], _, [], hW', trodAll_mk1 (shut_bool Try.underlying4 _), (trodAll_cons_mk (Below.trod laidOut (by kernel_rfl) (of_decide_eq_true (by kernel_rfl)) k0 bel lt0) (trodAll_cons_mk (Below.trod laidOut (by kernel_rfl) (of_decide_eq_true (by kernel_rfl)) k1 bel lt1) (trodAll_cons_mk (Below.trod laidOut (by kernel_rfl) (of_decide_eq_true (by kernel_rfl)) k2 bel lt2) (trodAll_cons_mk (Below.trod laidOut (by kernel_rfl) (of_decide_eq_true (by kernel_rfl)) k3 bel lt3) trodAll_mk0)))), rfl, bel.frame _, fun h => by cases h⟩

theorem over : Rows.scanOrderRow.holds Try.pinned (OpenSpec.ofChange Rows.scanOrderSpec) :=
  OpenClaim.holds_of_wide 6 Try.f6 rfl rfl rfl rfl rfl rfl rfl ⟨rfl, rfl, rfl, rfl, rfl⟩ rfl rfl rfl rfl rfl (by kernel_rfl) Try.func6 (by kernel_rfl)
    (of_decide_eq_true (by kernel_rfl)) (by unfold Func.isWrapper; first | (rw [if_pos (by decide +kernel)]; kernel_rfl) | (rw [if_neg (by decide +kernel)]; exact ⟨rfl, rfl⟩))
    (fun os started H enc _ => lifted os started H enc)

/-- The statement. -/
theorem proved : Rows.ScanOrderSaid :=
  over
#print axioms proved
end Go.Proofs.Ytkkgmgffkjeklaa.lawScanOrder
