/-
  The statement of ImapBack ('said' form), out of its walk: every input is read, the walk shows that the call answers true and writes nothing that was there.
-/
import Derived.Test.YtmjjdmofohjkkaaWalkImapBack
import Derived.Test.YtmjjdmofohjkkaaOpen2
import Derived.WalkKit
import Derived.ProofKit
import Derived.OpenShut
import Derived.ShutString
import Derived.SizedLaws
import Derived.Deep.CondSized
namespace Go.Proofs.Ytmjjdmofohjkkaa.lawImapBack
open Go.ChangeShapes Go.WideShapes Go.ChangeAt Go.RowKit
open Go.ChangeMaps (open_string shut_string)
set_option linter.unusedVariables false

theorem own : ownKnob Try.prog.godebug = none := by kernel_rfl
theorem laidOut : laidOutB Try.prog = true := by kernel_rfl
set_option maxRecDepth 100000 in
theorem dec1000 {H : Type} (enc : TypeId × Value → H) (W : World) : ∀ fuel cs x, DataW.trod enc Try.prog W 0 (fun _ => true) true fuel 55 cs = some x → ∃ y, cs = (fun p : Int × Int => [Value.int .i64 p.1, Value.int .i64 p.2]) y ∧ (fun p : Int × Int => (Lit.int .i64 p.1).wf = true ∧ (Lit.int .i64 p.2).wf = true) y := by
  intro fuel cs x h
  obtain ⟨xs, n, _, _, hl, hlen, hf⟩ := DataW.trod_struct Try.underlying55 h
  have hc : Try.prog.cellsOf 55 = 2 := by kernel_rfl
  rw [hc] at hl
  have c0 : Try.prog.cellsOf 3 = 1 := by kernel_rfl
  have c1 : Try.prog.cellsOf 3 = 1 := by kernel_rfl
  match cs, hl with
  | [z0, z1], _ =>
    have g0 : DataW.trod enc Try.prog W 0 (fun _ => true) true n 3 [z0] = xs[0]? := by have := hf 0 _ rfl; simpa [c0] using this
    obtain ⟨y0, l0⟩ : ∃ y, xs[0]? = some y := ⟨_, List.getElem?_eq_getElem (show 0 < xs.length by rw [hlen]; decide)⟩
    rw [l0] at g0
    obtain ⟨w0, e0, _, wf0⟩ := DataW.trod_int Try.underlying3 g0
    have g1 : DataW.trod enc Try.prog W 0 (fun _ => true) true n 3 [z1] = xs[1]? := by have := hf 1 _ rfl; simpa [c1] using this
    obtain ⟨y1, l1⟩ : ∃ y, xs[1]? = some y := ⟨_, List.getElem?_eq_getElem (show 1 < xs.length by rw [hlen]; decide)⟩
    rw [l1] at g1
    obtain ⟨w1, e1, _, wf1⟩ := DataW.trod_int Try.underlying3 g1
    refine ⟨(w0, w1), ?_, wf0, wf1⟩
    simp_all
set_option maxRecDepth 100000 in
theorem dec1001 {H : Type} (enc : TypeId × Value → H) (W : World) : ∀ fuel cs x, DataW.trod enc Try.prog W 0 (fun _ => true) true fuel 3 cs = some x → ∃ y, cs = (fun z : Int => [Value.int .i64 z]) y ∧ (fun z : Int => (Lit.int .i64 z).wf = true) y := by
  intro fuel cs x h
  obtain ⟨z, rfl, _, hw⟩ := DataW.trod_int Try.underlying3 h
  exact ⟨z, rfl, hw⟩

set_option maxRecDepth 100000 in
theorem lifted (os : Os) (started : os.Started) (H : Type) (enc : TypeId × Value → H) :
    ReturnsInHanded {} Try.checked os 4 .any (Rows.imapBackSpec.pre6 enc Try.prog Try.f4 Rows.imapBackRow.domain false) (Rows.imapBackSpec.post enc Try.prog Try.f4 false true false false) := by
  refine returnsInHanded_of_change_sized (C := Try.checked) own started (by kernel_rfl) Try.func4
    (ChangeSpec.witness6 (enc := enc) (C := Try.checked) false ⟨#[], #[.agg #[.slice none 0 0, .slice none 0 0], .string ⟨#[]⟩], []⟩ 8 (by kernel_rfl) (by kernel_rfl) (by kernel_rfl) (by kernel_rfl)) ?_
  intro W base args ds gs before hval0 hW hcnd hsz0 _
  have hsz : (DataW.weightsEach Try.prog (Try.f4.params.toList ++ Rows.imapBackSpec.plain.varTypes Try.prog) (ds ++ gs)).all (· ≤ reachBytes) = true := hsz0
  have hval : ∀ (j : Nat) t v, Try.f4.params[j]? = some t → args[j]? = some v → Value.okWide Try.prog W .any base t v := hval0
  have hW' := hW
  obtain ⟨p, q, hA0, hV, rfl, hfz, hnd⟩ := hW
  have hA : DataW.TrodAll enc Try.prog W 0 (fun _ => true) true Try.f4.params.toList args.toList ds p := hA0
  rw [Try.params4] at hA hval hsz
  obtain ⟨v0, vs0, d0, ds0, p0, q0, hargs, rfl, rfl, h0, r0⟩ := trodAll_cons hA
  obtain ⟨v1, vs1, d1, ds1, p1, q1, rfl, rfl, rfl, h1, r1⟩ := trodAll_cons r0
  obtain ⟨rfl, rfl, rfl⟩ := trodAll_nil r1
  obtain rfl : args = #[v0, v1] := by cases args; simp_all
  obtain ⟨rfl, rfl⟩ := trodVars_none hV
  have k0 := h0
  have lt0 : ∀ x ∈ p0, x.block < W.heap.size := by obtain ⟨m, hm⟩ := k0; exact DataW.trod_lt m _ _ _ hm
  have k1 := h1
  have lt1 : ∀ x ∈ p1, x.block < W.heap.size := by obtain ⟨m, hm⟩ := k1; exact DataW.trod_lt m _ _ _ hm
  obtain ⟨v0_0, v0_1, y0_0, y0_1, n0, rfl, rfl, rfl, t0_0, t0_1⟩ := Go.Joins.open_agg2 Try.underlying43 (by kernel_rfl) (by kernel_rfl) (hval 0 43 v0 rfl rfl) h0
  obtain ⟨xs0_0, hs0_0, hg0_0, hd0_0⟩ := kit.open_slice_cell (fun p : Int × Int => [Value.int .i64 p.1, Value.int .i64 p.2]) (fun p : Int × Int => (Lit.int .i64 p.1).wf = true ∧ (Lit.int .i64 p.2).wf = true) Try.underlying41 2 (by kernel_rfl) (by decide) (dec1000 enc W) t0_0
  have hn0_0 : xs0_0.length * Try.prog.bytesOf 55 ≤ reachBytes := by
    rcases hd0_0 with ⟨_, rfl⟩ | ⟨el, sp, e9, hl⟩
    · simp
    · have h := sized_slice (kit.sized_agg hsz (j := 0) (t := 43) rfl rfl Try.underlying43) (j := 0) (t := 41) (e := 55) rfl (congrArg some e9) Try.underlying41
      rw [← hl]
      exact Nat.le_trans (Nat.mul_le_mul_right _ (Nat.le_add_right _ _)) h
  obtain ⟨xs0_1, hs0_1, hg0_1, hd0_1⟩ := kit.open_slice_cell (fun z : Int => [Value.int .i64 z]) (fun z : Int => (Lit.int .i64 z).wf = true) Try.underlying29 1 (by kernel_rfl) (by decide) (dec1001 enc W) t0_1
  have hn0_1 : xs0_1.length * Try.prog.bytesOf 3 ≤ reachBytes := by
    rcases hd0_1 with ⟨_, rfl⟩ | ⟨el, sp, e9, hl⟩
    · simp
    · have h := sized_slice (kit.sized_agg hsz (j := 0) (t := 43) rfl rfl Try.underlying43) (j := 1) (t := 29) (e := 3) rfl (congrArg some e9) Try.underlying29
      rw [← hl]
      exact Nat.le_trans (Nat.mul_le_mul_right _ (Nat.le_add_right _ _)) h
  obtain ⟨s1, rfl, rfl, rfl, _⟩ := open_string Try.underlying9 (hval 1 9 v1 rfl rfl) h1
  have hs1 : s1.size ≤ reachBytes := by have := sized_string hsz (j := 1) (t := 9) rfl rfl; simpa using this
  clear hA0 hval0
  refine (walk W v0_0 xs0_0 hs0_0 hg0_0 hn0_0 v0_1 xs0_1 hs0_1 hg0_1 hn0_1 s1 hs1).mono fun e W' ⟨he, bel⟩ => ?_
  subst he
  exact ⟨_, rfl, _, _, _, [], _, [], hW', trodAll_mk1 (shut_bool Try.underlying4 _), (trodAll_cons_mk (Below.trod laidOut (by kernel_rfl) (of_decide_eq_true (by kernel_rfl)) k0 bel lt0) (trodAll_cons_mk (Below.trod laidOut (by kernel_rfl) (of_decide_eq_true (by kernel_rfl)) k1 bel lt1) trodAll_mk0)), rfl, bel.frame _, fun h => by cases h⟩

theorem over : Rows.imapBackRow.holds Try.pinned (OpenSpec.ofChange Rows.imapBackSpec) :=
  OpenClaim.holds_of_wide 4 Try.f4 rfl rfl rfl rfl rfl rfl rfl ⟨rfl, rfl, rfl, rfl, rfl⟩ rfl rfl rfl rfl rfl (by kernel_rfl) Try.func4 (by kernel_rfl)
    (of_decide_eq_true (by kernel_rfl)) (by unfold Func.isWrapper; first | (rw [if_pos (by decide +kernel)]; kernel_rfl) | (rw [if_neg (by decide +kernel)]; exact ⟨rfl, rfl⟩))
    (fun os started H enc _ => lifted os started H enc)

/-- The statement. -/
theorem proved : Rows.ImapBackSaid :=
  over
#print axioms proved
end Go.Proofs.Ytmjjdmofohjkkaa.lawImapBack
