/-
  disk: Write, Sync, Crash, each as one contract, whatever goes wrong.
-/
import Derived.Test.YtbgmfkhfbjgekaaOps2
namespace Go.Proofs.Ytbgmfkhfbjgekaa.disk
open Go.RowKit kit sl Go.Proofs.Ytbgmfkhfbjgekaa.ops
set_option linter.unusedVariables false
/-- the disk that Write hands back -/
def wrS (cs : List ByteArray) (ps : List (Int × ByteArray)) (at' : Int) (text : ByteArray) : St := if writeE cs ps at' text = 0 then (cs, ps ++ [(at', text)]) else ([], [])
/-- the cells that Sync or Crash hands back -/
def laS (K : Nat → Bool) (cs : List ByteArray) (ps : List (Int × ByteArray)) : List ByteArray := if checkD cs ps = 0 then land K 0 cs ps else []
attribute [local irreducible] box own sl old bptr eptr Qt Opr Run Cod Pst Drn
theorem write_out (a w : Option Addr) (ca cw : Nat) (cs : List ByteArray) (ps : List (Int × ByteArray)) (at' : Int) (text : ByteArray) (hc : cs.length ≤ maxLen) (hp : ps.length ≤ maxLen) :
    Ct Try.prog 38 [.agg #[.slice a cs.length ca, .slice w ps.length cw], .int .i64 at', .string text] [sl 1 (.slice a cs.length ca) (cs.map fS), sl 2 (.slice w ps.length cw) (ps.map fP)] fun v H' => ∃ qa ca qw cw, v = .tuple #[.agg #[.slice qa (wrS cs ps at' text).1.length ca, .slice qw (wrS cs ps at' text).2.length cw], .int .i64 (writeE cs ps at' text)] ∧ H' = [own (.slice qa (wrS cs ps at' text).1.length ca) 9 1 (wrS cs ps at' text).1.length (flat fS (wrS cs ps at' text).1), own (.slice qw (wrS cs ps at' text).2.length cw) 63 2 (wrS cs ps at' text).2.length (flat fP (wrS cs ps at' text).2)] :=
  ct_imp_h (write_any a w ca cw cs ps at' text hc hp) fun v H' hr => by
    rcases hr with ⟨h1, rfl, rfl⟩ | ⟨h1, qa, ca', qw, cw', rfl, rfl⟩
    · have e0 : wrS cs ps at' text = ([], []) := by unfold wrS; rw [if_neg h1]
      rw [e0]
      exact ⟨_, ⟨none, 0, none, 0, rfl, rfl⟩, fun Fr => HSub.of_nild (Nild.nil (Nild.nil Nild.refl)) (HSub.refl _)⟩
    · have e0 : wrS cs ps at' text = (cs, ps ++ [(at', text)]) := by unfold wrS; rw [if_pos h1]
      rw [e0, h1]
      exact ⟨_, ⟨qa, ca', qw, cw', rfl, rfl⟩, fun Fr => HSub.refl _⟩
theorem cells_out {f : FuncId} {args : List Value} {H : List Ent} {K : Nat → Bool} {cs : List ByteArray} {ps : List (Int × ByteArray)} (h : Ct Try.prog f args H (NewCells (checkD cs ps) (land K 0 cs ps))) :
    Ct Try.prog f args H fun v H' => ∃ qa ca, v = .tuple #[.agg #[.slice qa (laS K cs ps).length ca, .slice none 0 0], .int .i64 (checkD cs ps)] ∧ H' = [own (.slice qa (laS K cs ps).length ca) 9 1 (laS K cs ps).length (flat fS (laS K cs ps))] :=
  ct_imp_h h fun v H' hr => by
    rcases hr with ⟨h1, rfl, rfl⟩ | ⟨h1, qa, ca', rfl, rfl⟩
    · have e0 : laS K cs ps = [] := by unfold laS; rw [if_neg h1]
      rw [e0]
      exact ⟨_, ⟨none, 0, rfl, rfl⟩, fun Fr => HSub.of_nild (Nild.nil Nild.refl) (HSub.refl _)⟩
    · have e0 : laS K cs ps = land K 0 cs ps := by unfold laS; rw [if_pos h1]
      rw [e0, h1]
      exact ⟨_, ⟨qa, ca', rfl, rfl⟩, fun Fr => HSub.refl _⟩
theorem laS_len (K : Nat → Bool) (cs : List ByteArray) (ps : List (Int × ByteArray)) : (laS K cs ps).length ≤ 128 := by
  unfold laS
  split
  · rename_i h
    have := (good_of h).n1
    rw [land_len]
    omega
  · simp
theorem wrS_len (cs : List ByteArray) (ps : List (Int × ByteArray)) (at' : Int) (text : ByteArray) : (wrS cs ps at' text).1.length ≤ 128 ∧ (wrS cs ps at' text).2.length ≤ 401 := by
  unfold wrS
  split
  · rename_i h
    have := (good_more h).2.2
    have h1 := this.n1
    have h2 := this.wait
    exact ⟨h1, Nat.le_trans h2 (by decide)⟩
  · simp
end Go.Proofs.Ytbgmfkhfbjgekaa.disk
