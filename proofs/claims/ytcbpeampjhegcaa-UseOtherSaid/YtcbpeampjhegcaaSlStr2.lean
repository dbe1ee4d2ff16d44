/-
  The small separation logic: more operations. Nothing here speaks of the program.
-/
import Derived.Test.YtcbpeampjhegcaaSlStr
namespace Go.Proofs.Ytcbpeampjhegcaa.sl
open Go.RowKit kit
set_option linter.unusedVariables false
section
variable {P : Program} {n : Nat} {F : Frm} {H R : List Ent} {o : Oper} {x y z : Operand} {v u z' : Value} {T S : TypeId}
theorem q_load_mid {b i sz by' : Nat} {cs vs : List Value} {t : TypeId} [ht : Ty P T true sz by' z'] (ho : o.op = .load T x) (hx : ev F x = some (bptr b i)) (p : Pick (box b cs t) H R) (hvs : (cs.drop i).take sz = vs) (hl : vs.length = sz) : Qt P n o F H (.agg vs.toArray) := q_load_box ho hx p hvs hl (valOf_agg vs)
end
section
variable {P : Program} {ops : Array Oper} {Q : Post} {n : Nat} {Hq : List Ent} {nk : List Nat} {r i m : Nat} {L : Array Bool} {F : Frm} {H : List Ent} {rest : List Oper} {d : Nat} {op : Op} {ty : TypeId} {ps : String} {af : Array Edge} {j t : Nat} {b : Bool}
theorem not_wanted {o : Oper} {a : Act} (ha : Ok F n a) (hg : o.guard = some (j, b)) (hs : gslot ops j = some t) (hv : look F t = some undef) : Region.wanted o (yielded ops a.tmps) = false := by
  have h1 : ops[j]?.bind (·.dst) = some t := hs
  have h2 : yielded ops a.tmps j = none := by
    unfold yielded
    rw [h1]
    simp [ha.slot t _ hv, undef]
  simp [Region.wanted, hg, h2]
theorem run_offus (hs : gslot ops j = some t) (hv : look F t = some undef) (hd : Nat.blt d n = true) (k : Run P ops Q n rest ((d, undef) :: F) H) : Run P ops Q n (⟨some d, op, ty, ps, af, some (j, b)⟩ :: rest) F H :=
  fun a w ha hw => wpList_step fun K' hK => by
    have h9 := not_wanted (o := ⟨some d, op, ty, ps, af, some (j, b)⟩) ha rfl hs hv
    rw [if_neg (by rw [h9]; decide)]
    exact hK _ _ (k _ _ (ha.put (d := some d) hd) hw)
theorem run_offun (hs : gslot ops j = some t) (hv : look F t = some undef) (k : Run P ops Q n rest F H) : Run P ops Q n (⟨none, op, ty, ps, af, some (j, b)⟩ :: rest) F H :=
  fun a w ha hw => wpList_step fun K' hK => by
    have h9 := not_wanted (o := ⟨none, op, ty, ps, af, some (j, b)⟩) ha rfl hs hv
    rw [if_neg (by rw [h9]; decide)]
    exact hK _ _ (k _ _ (ha.put (d := none) rfl) hw)
theorem drnK_offu (hi : ops[i]? = some ⟨some d, op, ty, ps, af, some (j, b)⟩) (hsl : gslot ops j = some t) (hv : look F t = some undef) (hb : mayTake ops nk L i = true) (hs : HSub H Hq) (hd : Nat.blt d n = true)
    (h : DrnK P ops Q n Hq nk r (i + 1) m (L.setIfInBounds i true) ((d, undef) :: F) H) : DrnK P ops Q n Hq nk r i (m + 1) L F H :=
  drn_take_gen hi hb hs hd (fun a ha => .inr ⟨not_wanted ha rfl hsl hv, rfl⟩) h
end
theorem qs2 {P : Program} {n : Nat} {o : Oper} {F : Frm} {H : List Ent} {v : Value} (h : Qt P n o F H v := by exact q_load_mid rfl rfl (by exact pka) (by dsimp only [List.drop, List.take]) (by rfl)) : Qt P n o F H v := h
end Go.Proofs.Ytcbpeampjhegcaa.sl
