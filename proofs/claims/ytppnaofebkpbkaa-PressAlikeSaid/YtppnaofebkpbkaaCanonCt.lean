/-
  lens.Canon as a contract of the small logic; arrays in a box.
-/
import Derived.Test.YtppnaofebkpbkaaCanon
import Derived.Test.YtppnaofebkpbkaaTypes
import Derived.Test.YtppnaofebkpbkaaSlStr3
namespace Go.Proofs.Ytppnaofebkpbkaa.sl
open Go.RowKit kit lens
set_option linter.unusedVariables false
class Arr (P : Program) (t : TypeId) (len e : outParam Nat) : Prop where
  h : P.underlying t = some (.array len e)
section
variable {P : Program} {n : Nat} {F : Frm} {H R : List Ent} {o : Oper} {x y z : Operand} {v u z' : Value} {T S : TypeId}
theorem q_index_box {b i k m len e by' : Nat} {j : Int} {kd : IntKind} {agg : Bool} [ht : Arr P T len e] [hs : Ty P e agg 1 by' z'] (ho : o.op = .indexAddr T x y) (hx : ev F x = some (bptr b i)) (hy : ev F y = some (.int kd j)) (hj : j = (k : Int)) (hk : k < len) (hm : i + k = m) : Qt P n o F H (bptr b m) := fun a w ha _ => by
  subst hm
  have he : P.elem T = e := by simp [Program.elem, ht.h]
  have hl : P.arrayLen T = len := by simp [Program.arrayLen, ht.h]
  have hu : P.underlying T = some (.array (P.arrayLen T) (P.elem T)) := by rw [he, hl]; exact ht.h
  have h1 := run_indexAt_array (P := P) w T ⟨b, i, none⟩ kd j hu
  rw [he, hl, sizeOf_run hs, if_pos ⟨by omega, by omega⟩] at h1
  simp only [Result.andThen_ok] at h1
  have h2 : (⟨b, i, none⟩ : Addr).add (j.toNat * 1) = ⟨b, i + k, none⟩ := by rw [hj]; simp [Addr.add]
  rw [h2] at h1
  simp only [execOp, ho, ha.eval hx, ha.eval hy, bptr, Sem.run_bind, h1, Result.andThen_ok, Sem.run_pure]
theorem q_load_at {b i by' : Nat} {cs : List Value} {t : TypeId} [ht : Ty P T false 1 by' z'] (ho : o.op = .load T x) (hx : ev F x = some (bptr b i)) (p : Pick (box b cs t) H R) (hv : cs[i]? = some v) : Qt P n o F H v :=
  q_load_box (vs := [v]) ho hx p (by
    rw [List.getElem?_eq_some_iff] at hv
    obtain ⟨h1, h2⟩ := hv
    rw [List.drop_eq_getElem_cons h1, h2]
    rfl) rfl (valOf_one v)
theorem q_shln {k' : IntKind} {i j r : Int} {m : Nat} {T' : TypeId} (ho : o.op = .binOp .shl T x y T') (hx : ev F x = some (.int .i64 i)) (hy : ev F y = some (.int k' j)) (hj : j = (m : Int)) (hm : m ≤ 62) (hr : IntKind.i64.wrap (i * 2 ^ m) = r) : Qt P n o F H (.int .i64 r) :=
  q_shl (hp := ⟨by rw [hj]; rfl, by omega, by omega⟩) ho hx hy (Nat.ble_eq_true_of_le (by simp [IntKind.bits]; omega)) hr
theorem q_shrn {k k' : IntKind} {i j r : Int} {m : Nat} {T' : TypeId} (ho : o.op = .binOp .shr T x y T') (hx : ev F x = some (.int k i)) (hy : ev F y = some (.int k' j)) (hj : j = (m : Int)) (hm : m ≤ 8) (hr : i / 2 ^ m = r) : Qt P n o F H (.int k r) := by
  subst hr
  exact q_shr (hp := ⟨by rw [hj]; rfl, by omega, by omega⟩) ho hx hy (Nat.ble_eq_true_of_le (by cases k <;> simp [IntKind.bits] <;> omega))
end
end Go.Proofs.Ytppnaofebkpbkaa.sl
namespace Go.Proofs.Ytppnaofebkpbkaa.lens
open Go.RowKit kit sl
/-- the codes -/
def codes (l : List Int) : List Int := (List.range l.length).map fun i => ((codeAt l i : Nat) : Int)
theorem codes_len (l : List Int) : (codes l).length = l.length := by simp [codes]
def CanonOut (l : List Int) (v : Value) (H' : List Ent) : Prop := (canonE l ≠ 0 ∧ v = .tuple #[.slice none 0 0, .int .i64 (canonE l : Int)] ∧ H' = []) ∨
  (canonE l = 0 ∧ ∃ q c, v = .tuple #[.slice q l.length c, .int .i64 0] ∧ H' = [own (.slice q l.length c) 3 1 l.length (flat fI (codes l))])
theorem flat_fI (l : List Int) : flat fI l = l.map fun x => Value.int .i64 x := by
  induction l with
  | nil => rfl
  | cons x l ih => show fI x ++ flat fI l = _; rw [ih]; rfl
theorem canon_ct (q : Option Addr) (c : Nat) (l : List Int) (hg : ∀ x ∈ l, (Lit.int .i64 x).wf = true) (hn : l.length ≤ 1000000000000000) :
    Ct Try.prog 61 [.slice q l.length c] [sl 1 (.slice q l.length c) (l.map fI)] (CanonOut l) := ⟨fun Fr w hw => by
  refine (canon_any (.slice q l.length c) l w hw.head hg hn).mono fun e w' ⟨hor, hb⟩ => ?_
  have hw2 : HeapOk Fr w := hw.tail
  have hm : Moved (fun _ => False) w w' := ⟨hb.os, hb.tape, hb.output, hb.size, fun b hb' _ => hb.block b hb'⟩
  rcases hor with ⟨h1, h2⟩ | ⟨h1, G, h2, h3, h4⟩
  · exact ⟨_, [], h2, .inl ⟨h1, rfl, rfl⟩, hw2.moved hm⟩
  · refine ⟨_, [own (.slice (some ⟨G, 0, none⟩) l.length l.length) 3 1 l.length (flat fI (codes l))], h2, .inr ⟨h1, _, _, rfl, rfl⟩, ?_⟩
    refine HeapOk.new hw2 hm ?_ fun b hb => ?_
    · obtain ⟨cs, k1, k2, k3⟩ := h4
      have k4 : cs.toList = flat fI (codes l) := by
        rw [flat_fI]
        apply List.ext_getElem?
        intro i
        rw [List.getElem?_map, codes, List.getElem?_map, Array.getElem?_toList]
        rcases Nat.lt_or_ge i l.length with hi | hi
        · rw [k3 i hi, List.getElem?_range hi]; rfl
        · rw [Array.getElem?_eq_none (by omega), List.getElem?_eq_none (by simpa using hi)]; rfl
      refine ⟨by rw [flat_fI]; simp [codes], .inr ⟨G, l.length, cs, rfl, Nat.zero_le _, k1, Nat.le_refl _, by unfold maxLen; omega, by rw [k2, Nat.mul_one], ?_⟩⟩
      rw [k4]
      exact List.take_of_length_le (by rw [flat_fI]; simp [codes])
    · have : G = b := Option.some.inj hb
      omega⟩
end Go.Proofs.Ytppnaofebkpbkaa.lens
