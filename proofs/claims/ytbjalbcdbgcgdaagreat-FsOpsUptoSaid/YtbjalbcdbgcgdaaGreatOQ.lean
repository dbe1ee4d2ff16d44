/- FsOps, packed. -/
import Derived.WalkKit
namespace Go.Proofs
theorem Z8 {P : Prop} (h : P := by omega) : P := h
theorem Z9 {P : Prop} (h : P := by decide) : P := h
theorem Ja {P : Prop} (h : P := by simp) : P := h
theorem Jb {P : Prop} (h : P := by rfl) : P := h
theorem Jc {P : Prop} (h : P := by assumption) : P := h
theorem Jd {P : Prop} (h : P := by kernel_rfl) : P := h
theorem Je {P : Prop} (h : P := by decide +kernel) : P := h
universe u
theorem Jf {c : Prop} {h : Decidable c} (hnc : ¬c) {α : Sort u} {t e : α} : ite c t e = e := if_neg hnc
theorem Jg {c : Prop} {h : Decidable c} (hc : c) {α : Sort u} {t e : α} : ite c t e = t := if_pos hc
end Go.Proofs
