/-
  The small separation logic: the laws of the operations that look into memory or change it, and of calls. Nothing here speaks of the program.
-/
import Derived.Test.YtcbpeampjhegcaaSlOps
import Derived.Maps.AppendAt
namespace Go.Proofs.Ytcbpeampjhegcaa.sl
open Go.RowKit kit
set_option linter.unusedVariables false

/-! ### what is known of the types -/
def isAggD : TypeDesc → Bool
  | .struct _ | .array _ _ => true
  | _ => false
def tyInfo (P : Program) (t : TypeId) : Option (Bool × Nat × Nat × Value) :=
  match P.info? t, P.underlying t with
  | some i, some d => i.zero.map fun z => (isAggD d, i.size, i.bytes, z)
  | _, _ => none
class Ty (P : Program) (t : TypeId) (agg : outParam Bool) (sz bytes : outParam Nat) (z : outParam Value) : Prop where
  h : tyInfo P t = some (agg, sz, bytes, z)
  hz : z.cells.size = sz
def fieldOff (P : Program) (s : TypeId) (f : Nat) : Option (Nat × Nat) :=
  match P.underlying s with
  | some (.struct fs) => (fs[f]?).map fun d => (d.offset, P.cellsOf d.type)
  | _ => none
class Fld (P : Program) (s : TypeId) (f : Nat) (off sz : outParam Nat) : Prop where
  h : fieldOff P s f = some (off, sz)
  pos : 0 < sz
class Sli (P : Program) (t : TypeId) (e : outParam TypeId) : Prop where
  h : P.underlying t = some (.slice e)
class Strg (P : Program) (t : TypeId) : Prop where
  h : P.underlying t = some .string
class IntK (P : Program) (t : TypeId) (k : outParam IntKind) : Prop where
  h : P.underlying t = some (.int k)
class Mp (P : Program) (t : TypeId) (k e : outParam TypeId) : Prop where
  h : P.underlying t = some (.map k e)
class Cal (P : Program) (f : FuncId) : Prop where
  h : ((P.funcs[f]?).map fun fn => (fn.body.isSome, fn.name == "runtime.NumGoroutine")) = some (true, false)
/-- the cells of a variable that nobody has written yet -/
class Zr (P : Program) (t : TypeId) (zc : outParam (List Value)) : Prop where
  h : ∃ agg sz bytes z, Ty P t agg sz bytes z ∧ z.cells = zc.toArray
theorem Ty.info {P : Program} {t : TypeId} {agg : Bool} {sz bytes : Nat} {z : Value} (h : Ty P t agg sz bytes z) : ∃ i d, P.info? t = some i ∧ P.underlying t = some d ∧ isAggD d = agg ∧ i.size = sz ∧ i.bytes = bytes ∧ i.zero = some z := by
  have h := h.h
  unfold tyInfo at h
  split at h
  · rename_i i d hi hd
    obtain ⟨z', hz, e⟩ := Option.map_eq_some_iff.1 h
    simp only [Prod.mk.injEq] at e
    obtain ⟨e1, e2, e3, rfl⟩ := e
    exact ⟨i, d, hi, hd, e1, e2, e3, hz⟩
  · cases h
theorem isAgg_run {P : Program} {t : TypeId} {agg : Bool} {sz bytes : Nat} {z : Value} (h : Ty P t agg sz bytes z) (w : World) : (isAgg t).run P w = .ok agg w := by
  obtain ⟨i, d, _, hd, ha, _⟩ := h.info
  subst ha
  simp only [isAgg, Sem.run_bind, run_underlying hd, Result.andThen_ok]
  cases d <;> rfl
theorem sizeOf_run {P : Program} {t : TypeId} {agg : Bool} {sz bytes : Nat} {z : Value} (h : Ty P t agg sz bytes z) (w : World) : (sizeOf t).run P w = .ok sz w := by
  obtain ⟨i, d, hi, _, _, hs, _⟩ := h.info
  simp [sizeOf, typeInfo, Sem.run_bind, hi, hs]
theorem zero_run {P : Program} {t : TypeId} {agg : Bool} {sz bytes : Nat} {z : Value} (h : Ty P t agg sz bytes z) (w : World) : (zeroValue t).run P w = .ok z w := by
  obtain ⟨i, d, hi, _, _, _, _, hz⟩ := h.info
  simp [zeroValue, typeInfo, Sem.run_bind, hi, hz]
/-- what a variable of type t holds whose cells are these -/
def valOf (agg : Bool) (vs : List Value) (v : Value) : Prop := if agg = true then v = .agg vs.toArray else vs = [v]
theorem valOf_one (v : Value) : valOf false [v] v := rfl
theorem valOf_agg (vs : List Value) : valOf true vs (.agg vs.toArray) := rfl
theorem loadVar_run {P : Program} {t : TypeId} {agg : Bool} {sz bytes : Nat} {z v : Value} (h : Ty P t agg sz bytes z) (w : World) (a : Addr) (vs : List Value) (hl : vs.length = sz) (hc : ∀ j u, vs[j]? = some u → w.cell? (a.add j) = some u) (hv : valOf agg vs v) : (loadVar t a).run P w = .ok v w := by
  cases agg with
  | true =>
    have hv' : v = .agg vs.toArray := hv
    subst hv'
    subst hl
    simp [loadVar, isAgg_run h, sizeOf_run h, run_loadCells_list (P := P) (w := w) a vs hc]
  | false =>
    have hv' : vs = [v] := hv
    subst hv'
    have := hc 0 v rfl
    have ea : a.add 0 = a := by simp [Addr.add]
    rw [ea] at this
    simp [loadVar, isAgg_run h, load, Sem.run, this]

/-! ### pointers -/
def bptr (b i : Nat) : Value := .pointer (some ⟨b, i, none⟩)
/-- the address of the cell j of the element i of a slice -/
def eaddr (v : Value) (i sz j : Nat) : Addr := match v with
  | .slice (some a) _ _ => a.add (i * sz + j)
  | _ => default
def eptr (v : Value) (i sz j : Nat) : Value := .pointer (some (eaddr v i sz j))
theorem addr_add (b i j : Nat) : (⟨b, i, none⟩ : Addr).add j = ⟨b, i + j, none⟩ := by unfold Addr.add; split <;> simp_all
theorem add_add (a : Addr) (i j : Nat) (h : a.spot = none) : (a.add i).add j = a.add (i + j) := by
  obtain ⟨b, o, s⟩ := a
  simp only at h
  subst h
  rw [addr_add, addr_add, addr_add, Nat.add_assoc]
/-- cells laid over a row -/
def splice : List Value → Nat → List Value → List Value
  | cs, _, [] => cs
  | [], _, _ => []
  | _ :: cs, 0, u :: us => u :: splice cs 0 us
  | c :: cs, i + 1, us => c :: splice cs i us
theorem splice_eq : ∀ (cs : List Value) (i : Nat) (us : List Value), i + us.length ≤ cs.length → splice cs i us = cs.take i ++ us ++ cs.drop (i + us.length) := by
  intro cs
  induction cs with
  | nil =>
    intro i us h
    have h1 : us = [] := List.eq_nil_of_length_eq_zero (by simp only [List.length_nil] at h; omega)
    subst h1
    cases i <;> simp [splice]
  | cons c cs ih =>
    intro i us h
    cases us with
    | nil => cases i <;> simp [splice]
    | cons u us =>
      cases i with
      | zero => simp only [splice, ih 0 us (by simpa using h)]; simp
      | succ i =>
        have := ih i (u :: us) (by simp at h ⊢; omega)
        simp only [splice, this]
        simp [Nat.succ_add]
theorem splice_len : ∀ (cs : List Value) (i : Nat) (us : List Value), (splice cs i us).length = cs.length := by
  intro cs
  induction cs with
  | nil => intro i us; cases us <;> cases i <;> rfl
  | cons c cs ih =>
    intro i us
    cases us with
    | nil => cases i <;> rfl
    | cons u us => cases i <;> simp [splice, ih]

section
variable {P : Program} {n : Nat} {F : Frm} {H R : List Ent} {o : Oper} {x y z : Operand} {v u z' : Value} {T : TypeId}
theorem q_field_box {b i f off fs : Nat} [hf : Fld P T f off fs] (ho : o.op = .fieldAddr T x f) (hx : ev F x = some (bptr b i)) {k : Nat} (hk : i + off = k) : Qt P n o F H (bptr b k) := fun a w ha _ => by
  subst hk
  have h1 := hf.h
  unfold fieldOff at h1
  split at h1
  · rename_i fs' hu
    obtain ⟨d, hd, e⟩ := Option.map_eq_some_iff.1 h1
    simp only [Prod.mk.injEq] at e
    have hs : 0 < P.cellsOf d.type := by rw [e.2]; exact hf.pos
    have hs2 : ∃ i, P.info? d.type = some i ∧ i.size = P.cellsOf d.type := by
      unfold Program.cellsOf at hs ⊢
      cases hq : P.info? d.type with
      | none => simp [hq] at hs
      | some i => exact ⟨i, rfl, by simp⟩
    obtain ⟨i', hi1, hi2⟩ := hs2
    simp [execOp, ho, ha.eval hx, bptr, Instr.fieldAt, run_underlying hu, hd, Instr.sureAddr, fieldPlace, sizeOf, typeInfo, hi1, hi2, e.1, e.2, Nat.ne_of_gt hf.pos, addr_add]
  · cases h1
theorem q_field_elt {i sz j f off fs : Nat} {q : Option Addr} {m c : Nat} [hf : Fld P T f off fs] (ho : o.op = .fieldAddr T x f) (hx : ev F x = some (eptr v i sz j)) {k : Nat} (hk : j + off = k) (hv : ∀ w, HeapOk H w → ∀ a m c, v = .slice (some a) m c → a.spot = none) (hq : v = .slice q m c) (hqs : ∀ w, HeapOk H w → q ≠ none) : Qt P n o F H (eptr v i sz k) := fun a w ha hw => by
  subst hk
  have h1 := hf.h
  unfold fieldOff at h1
  split at h1
  · rename_i fs' hu
    obtain ⟨d, hd, e⟩ := Option.map_eq_some_iff.1 h1
    simp only [Prod.mk.injEq] at e
    have hs : 0 < P.cellsOf d.type := by rw [e.2]; exact hf.pos
    have hs2 : ∃ i, P.info? d.type = some i ∧ i.size = P.cellsOf d.type := by
      unfold Program.cellsOf at hs ⊢
      cases hq : P.info? d.type with
      | none => simp [hq] at hs
      | some i => exact ⟨i, rfl, by simp⟩
    obtain ⟨i', hi1, hi2⟩ := hs2
    subst hq
    cases q with
    | none => exact absurd rfl (hqs w hw)
    | some ad =>
      have hsp := hv w hw ad m c rfl
      simp [execOp, ho, ha.eval hx, eptr, eaddr, Instr.fieldAt, run_underlying hu, hd, Instr.sureAddr, fieldPlace, sizeOf, typeInfo, hi1, hi2, e.1, e.2, Nat.ne_of_gt hf.pos, add_add ad _ _ hsp, Nat.add_assoc]
  · cases h1
theorem box_cells {b : Nat} {cs : List Value} {t : TypeId} {w : World} (h : (box b cs t).holds w) (i : Nat) : w.cell? ⟨b, i, none⟩ = cs[i]? := by
  have h' : w.heap[b]? = some (.cells cs.toArray t (0, 0)) := h
  rw [cell_of_row _ _ _ _ _ _ h']
  simp
theorem q_load_box {b i sz by' : Nat} {agg : Bool} {cs vs : List Value} {t : TypeId} [ht : Ty P T agg sz by' z'] (ho : o.op = .load T x) (hx : ev F x = some (bptr b i)) (p : Pick (box b cs t) H R) (hvs : (cs.drop i).take sz = vs) (hl : vs.length = sz) (hv : valOf agg vs v) : Qt P n o F H v := fun a w ha hw => by
  have hb := hw.1 _ p.mem
  have := loadVar_run ht w ⟨b, i, none⟩ vs hl (fun j u hj => by
    rw [addr_add, box_cells hb]
    subst hvs
    rw [List.getElem?_take] at hj
    split at hj
    · rw [List.getElem?_drop] at hj; exact hj
    · cases hj) hv
  simp [execOp, ho, ha.eval hx, bptr, Instr.loadAt, Instr.sureAddr, this]
theorem q_load_all {b sz by' : Nat} {cs : List Value} {t : TypeId} [ht : Ty P T true sz by' z'] (ho : o.op = .load T x) (hx : ev F x = some (bptr b 0)) (p : Pick (box b cs t) H R) (hl : cs.length = sz) : Qt P n o F H (.agg cs.toArray) :=
  q_load_box ho hx p (by rw [List.drop_zero, List.take_of_length_le (by omega)]) hl (valOf_agg cs)
theorem q_load_cell {b i by' : Nat} {cs : List Value} {t : TypeId} [ht : Ty P T false 1 by' z'] (ho : o.op = .load T x) (hx : ev F x = some (bptr b i)) (p : Pick (box b cs t) H R) (hv : cs[i]? = some v) : Qt P n o F H v :=
  q_load_box ho hx p (by rw [List.drop_eq_getElem_cons (List.getElem?_eq_some_iff.1 hv).1, (List.getElem?_eq_some_iff.1 hv).2]; rfl) rfl (valOf_one v)
theorem sl_elem {w : World} {sz : Nat} {v : Value} {rows : List (List Value)} (h : SliceAt w sz v rows) {i : Nat} {r : List Value} (hr : rows[i]? = some r) : ∃ a m c, v = .slice (some a) m c ∧ a.spot = none ∧ m = rows.length ∧ r.length = sz ∧ ∀ (j : Nat) (u : Value), r[j]? = some u → w.cell? (eaddr v i sz j) = some u := by
  rcases h with ⟨rfl, _⟩ | ⟨b, off, cap, rfl, h1, h2, h3, h4, h5⟩
  · simp at hr
  · refine ⟨_, _, _, rfl, rfl, rfl, (h5 i r hr).1, fun j u hj => ?_⟩
    have := (h5 i r hr).2 j u hj
    simp only [eaddr, addr_add]
    rw [← Nat.add_assoc]
    exact this
theorem q_load_sl {i sz s by' j : Nat} {agg : Bool} {rows : List (List Value)} {r vs : List Value} [ht : Ty P T agg s by' z'] (ho : o.op = .load T x) (hx : ev F x = some (eptr u i sz j)) (p : Pick (sl sz u rows) H R) (hr : rows[i]? = some r) (hvs : (r.drop j).take s = vs) (hl : vs.length = s) (hv : valOf agg vs v) : Qt P n o F H v := fun a w ha hw => by
  have hb : SliceAt w sz u rows := hw.1 _ p.mem
  obtain ⟨ad, m, c, rfl, hsp, _, _, hcell⟩ := sl_elem hb hr
  have := loadVar_run ht w (eaddr (.slice (some ad) m c) i sz j) vs hl (fun k u hj => by
    subst hvs
    rw [List.getElem?_take] at hj
    split at hj
    · rw [List.getElem?_drop] at hj
      have := hcell _ _ hj
      simp only [eaddr] at this ⊢
      rw [add_add _ _ _ hsp, Nat.add_assoc]
      exact this
    · cases hj) hv
  simp [execOp, ho, ha.eval hx, eptr, Instr.loadAt, Instr.sureAddr, this]
theorem q_load_slm {α : Type} {f : α → List Value} {xs : List α} {q : α} {i sz s by' j : Nat} {agg : Bool} {vs : List Value} [ht : Ty P T agg s by' z'] (ho : o.op = .load T x) (hx : ev F x = some (eptr u i sz j)) (p : Pick (sl sz u (xs.map f)) H R) (hr : xs[i]? = some q) (hvs : ((f q).drop j).take s = vs) (hl : vs.length = s) (hv : valOf agg vs v) : Qt P n o F H v :=
  q_load_sl ho hx p (by rw [List.getElem?_map, hr]; rfl) hvs hl hv
theorem q_load_slm1 {α : Type} {f : α → List Value} {xs : List α} {q : α} {i sz by' j : Nat} [ht : Ty P T false 1 by' z'] (ho : o.op = .load T x) (hx : ev F x = some (eptr u i sz j)) (p : Pick (sl sz u (xs.map f)) H R) (hr : xs[i]? = some q) (hv : (f q)[j]? = some v) : Qt P n o F H v :=
  q_load_slm ho hx p hr (by rw [List.drop_eq_getElem_cons (List.getElem?_eq_some_iff.1 hv).1, (List.getElem?_eq_some_iff.1 hv).2]; rfl) rfl (valOf_one v)
theorem q_load_slmA {α : Type} {f : α → List Value} {xs : List α} {q : α} {i sz by' : Nat} [ht : Ty P T true sz by' z'] (ho : o.op = .load T x) (hx : ev F x = some (eptr u i sz 0)) (p : Pick (sl sz u (xs.map f)) H R) (hr : xs[i]? = some q) (hl : (f q).length = sz) : Qt P n o F H (.agg (f q).toArray) :=
  q_load_slm ho hx p hr (by rw [List.drop_zero, List.take_of_length_le (by omega)]) hl (valOf_agg _)
theorem own_elem {w : World} {B e sz m : Nat} {v : Value} {xs : List Value} (h : w.ownsRow B e sz v m xs) {i j : Nat} {u : Value} (hj : xs[i * sz + j]? = some u) : ∃ g c, v = .slice (some ⟨g, 0, none⟩) m c ∧ w.cell? (eaddr v i sz j) = some u := by
  have hl := (List.getElem?_eq_some_iff.1 hj).1
  rcases h.2 with ⟨rfl, h0⟩ | ⟨g, cap, cur, rfl, hb, hg, h1, h2, h3, h4⟩
  · rw [h.1, h0] at hl; simp at hl
  · refine ⟨g, cap, rfl, ?_⟩
    simp only [eaddr, addr_add, Nat.zero_add]
    rw [cell_of_row _ _ _ _ _ _ hg, ← Array.getElem?_toList]
    rw [← h4, List.getElem?_take] at hj
    split at hj
    · exact hj
    · cases hj
theorem q_load_own {i sz s by' j m e : Nat} {agg : Bool} {xs vs : List Value} [ht : Ty P T agg s by' z'] (ho : o.op = .load T x) (hx : ev F x = some (eptr u i sz j)) (p : Pick (own u e sz m xs) H R) (hvs : (xs.drop (i * sz + j)).take s = vs) (hl : vs.length = s) (hs : 0 < s) (hv : valOf agg vs v) : Qt P n o F H v := fun a w ha hw => by
  have hb : w.ownsRow 0 e sz u m xs := hw.1 _ p.mem
  have hc : ∀ k u', vs[k]? = some u' → xs[i * sz + (j + k)]? = some u' := fun k u' hj => by
    subst hvs
    rw [List.getElem?_take] at hj
    split at hj
    · rw [List.getElem?_drop] at hj; rw [← Nat.add_assoc]; exact hj
    · cases hj
  obtain ⟨g, c, rfl, _⟩ := own_elem hb (hc 0 _ (List.getElem?_eq_getElem (by omega)))
  have := loadVar_run ht w (eaddr (.slice (some ⟨g, 0, none⟩) m c) i sz j) vs hl (fun k u' hj => by
    obtain ⟨g', c', e', hcell⟩ := own_elem hb (hc k u' hj)
    simp only [eaddr] at hcell ⊢
    rw [add_add _ _ _ rfl, Nat.add_assoc]
    exact hcell) hv
  simp [execOp, ho, ha.eval hx, eptr, Instr.loadAt, Instr.sureAddr, this]
theorem flat_drop {α : Type} {f : α → List Value} {sz : Nat} (hf : ∀ x, (f x).length = sz) {ys : List α} {i : Nat} {q : α} (hq : ys[i]? = some q) {j s : Nat} (h : j + s ≤ sz) : ((flat f ys).drop (i * sz + j)).take s = ((f q).drop j).take s := by
  apply List.ext_getElem?
  intro k
  rw [List.getElem?_take, List.getElem?_take]
  split
  · rw [List.getElem?_drop, List.getElem?_drop, Nat.add_assoc]
    obtain ⟨u, hu⟩ : ∃ u, (f q)[j + k]? = some u := ⟨_, List.getElem?_eq_getElem (by rw [hf]; omega)⟩
    rw [hu, flat_at f sz hf ys i q hq (j + k) u hu]
  · rfl
theorem q_load_ownm {α : Type} {f : α → List Value} {ys : List α} {q : α} {i sz s by' j m e : Nat} {agg : Bool} {vs : List Value} [ht : Ty P T agg s by' z'] (ho : o.op = .load T x) (hx : ev F x = some (eptr u i sz j)) (p : Pick (own u e sz m (flat f ys)) H R) (hf : ∀ x, (f x).length = sz) (hr : ys[i]? = some q) (hvs : ((f q).drop j).take s = vs) (hl : vs.length = s) (hs : 0 < s) (hv : valOf agg vs v) : Qt P n o F H v := by
  refine q_load_own ho hx p ?_ hl hs hv
  have h9 : j + s ≤ sz := by
    have := congrArg List.length hvs
    rw [List.length_take, List.length_drop, hf, hl] at this
    omega
  rw [flat_drop hf hr h9, hvs]
theorem q_load_ownm1 {α : Type} {f : α → List Value} {ys : List α} {q : α} {i sz by' j m e : Nat} [ht : Ty P T false 1 by' z'] (ho : o.op = .load T x) (hx : ev F x = some (eptr u i sz j)) (p : Pick (own u e sz m (flat f ys)) H R) (hf : ∀ x, (f x).length = sz) (hr : ys[i]? = some q) (hv : (f q)[j]? = some v) : Qt P n o F H v :=
  q_load_ownm ho hx p hf hr (by rw [List.drop_eq_getElem_cons (List.getElem?_eq_some_iff.1 hv).1, (List.getElem?_eq_some_iff.1 hv).2]; rfl) (vs := [v]) rfl Nat.zero_lt_one (valOf_one v)
theorem q_load_ownmA {α : Type} {f : α → List Value} {ys : List α} {q : α} {i sz by' m e : Nat} [ht : Ty P T true sz by' z'] (ho : o.op = .load T x) (hx : ev F x = some (eptr u i sz 0)) (p : Pick (own u e sz m (flat f ys)) H R) (hf : ∀ x, (f x).length = sz) (hr : ys[i]? = some q) (hs : Nat.blt 0 sz = true) : Qt P n o F H (.agg (f q).toArray) :=
  q_load_ownm ho hx p hf hr (by rw [List.drop_zero, List.take_of_length_le (by rw [hf]; omega)]) (hf q) (by simpa using hs) (valOf_agg _)
theorem index_run {t e : TypeId} {ad : Addr} {m c i : Nat} {k : IntKind} {sz : Nat} [ht : Sli P t e] {agg : Bool} {by' : Nat} [hs : Ty P e agg sz by' z'] (hi : i < m) (w : World) : (Instr.indexAt t (.slice (some ad) m c) (.int k (i : Int))).run P w = .ok (.pointer (some (ad.add (i * sz)))) w := by
  have h1 : (0 : Int) ≤ (i : Int) ∧ (i : Int) < (m : Int) := by omega
  simp only [Instr.indexAt, asIntOf, run_underlying ht.h, Sem.run_bind, Sem.run_pure, Result.andThen_ok, if_pos h1, sizeOf_run hs, Int.toNat_natCast]
theorem q_index_sl {t e sz i by' : Nat} {k : IntKind} {idx : Int} {agg : Bool} {rows : List (List Value)} [ht : Sli P t e] [hs : Ty P e agg sz by' z'] (ho : o.op = .indexAddr t x y) (hx : ev F x = some v) (hy : ev F y = some (.int k idx)) (p : Pick (sl sz v rows) H R) (hidx : idx = (i : Int)) (hi : i < rows.length) : Qt P n o F H (eptr v i sz 0) := fun a w ha hw => by
  subst hidx
  have hb : SliceAt w sz v rows := hw.1 _ p.mem
  obtain ⟨ad, m, c, rfl, hsp, rfl, _⟩ := sl_elem hb (List.getElem?_eq_getElem hi)
  simp only [execOp, ho, ha.eval hx, ha.eval hy, Sem.run_bind, Sem.run_pure, Result.andThen_ok, index_run (P := P) (t := t) hi, eptr, eaddr, Nat.add_zero]
theorem q_index_own {t e e' sz i m by' : Nat} {k : IntKind} {idx : Int} {agg : Bool} {xs : List Value} [ht : Sli P t e] [hs : Ty P e agg sz by' z'] (ho : o.op = .indexAddr t x y) (hx : ev F x = some v) (hy : ev F y = some (.int k idx)) (p : Pick (own v e' sz m xs) H R) (hidx : idx = (i : Int)) (hi : i < m) : Qt P n o F H (eptr v i sz 0) := fun a w ha hw => by
  subst hidx
  have hb : w.ownsRow 0 e' sz v m xs := hw.1 _ p.mem
  rcases hb.2 with ⟨_, h0⟩ | ⟨g, cap, cur, rfl, _⟩
  · omega
  · simp only [execOp, ho, ha.eval hx, ha.eval hy, Sem.run_bind, Sem.run_pure, Result.andThen_ok, index_run (P := P) (t := t) hi, eptr, eaddr, Nat.add_zero]
theorem q_len_slice {t e m c : Nat} {q : Option Addr} [ht : Sli P t e] (ho : o.op = .call { callee := .builtin .len, args := #[x], argTypes := #[t] }) (hx : ev F x = some (.slice q m c)) : Qt P n o F H (.int .i64 (m : Int)) := fun a w ha hw => by
  simp [execOp, ho, resolve, invoke, builtin, ha.eval hx, Builtin.len_, run_underlying ht.h, Sem.run_bind, goInt]
theorem q_len_str {t : Nat} {s : ByteArray} [ht : Strg P t] (ho : o.op = .call { callee := .builtin .len, args := #[x], argTypes := #[t] }) (hx : ev F x = some (.string s)) : Qt P n o F H (.int .i64 (s.size : Int)) := fun a w ha hw => by
  simp [execOp, ho, resolve, invoke, builtin, ha.eval hx, Builtin.len_, run_underlying ht.h, Sem.run_bind, goInt]
theorem q_cap_slice {t e m c : Nat} {q : Option Addr} [ht : Sli P t e] (ho : o.op = .call { callee := .builtin .cap, args := #[x], argTypes := #[t] }) (hx : ev F x = some (.slice q m c)) : Qt P n o F H (.int .i64 (c : Int)) := fun a w ha hw => by
  simp [execOp, ho, resolve, invoke, builtin, ha.eval hx, Builtin.cap_, run_underlying ht.h, Sem.run_bind, goInt]
theorem q_min {t : Nat} {k : IntKind} {i j : Int} (ho : o.op = .call { callee := .builtin .min, args := #[x, y], argTypes := #[t, t] }) (hx : ev F x = some (.int k i)) (hy : ev F y = some (.int k j)) : Qt P n o F H (.int k (min i j)) := fun a w ha hw => by
  simp [execOp, ho, resolve, invoke, builtin, ha.eval hx, ha.eval hy, Builtin.min_, Builtin.min2, ite_min]
theorem q_nilCheck {a' : Addr} (ho : o.op = .nilCheck x) (hx : ev F x = some (.pointer (some a'))) : Qt P n o F H (.pointer (some a')) := fun a w ha hw => by
  simp [execOp, ho, ha.eval hx]
theorem q_str_eql {s t : ByteArray} {T T' : TypeId} (ho : o.op = .binOp .eql T x y T') (hx : ev F x = some (.string s)) (hy : ev F y = some (.string t)) : Qt P n o F H (.bool (s.toList == t.toList)) := fun a w ha hw => by
  simp [execOp, ho, ha.eval hx, ha.eval hy, eqGuard, binOp, Op.stringOp]
theorem q_str_neq {s t : ByteArray} {T T' : TypeId} (ho : o.op = .binOp .neq T x y T') (hx : ev F x = some (.string s)) (hy : ev F y = some (.string t)) : Qt P n o F H (.bool (!(s.toList == t.toList))) := fun a w ha hw => by
  simp [execOp, ho, ha.eval hx, ha.eval hy, eqGuard, binOp, Op.stringOp]

/-! ### operations that make memory or change it -/
theorem moved_alloc (w : World) (ob : Obj) : Moved (fun _ => False) w (w.alloc ob) := ⟨rfl, rfl, rfl, by simp, fun b hb _ => heap_alloc_old w ob hb⟩
theorem opr_box {us : List Value} (ho : o.op = .box T x) (hx : ev F x = some v) (hus : v.cells = us.toArray) : Opr P n o F H fun u H' => ∃ b, u = bptr b 0 ∧ H' = box b us T :: H := fun Q a w next ha hw hn => by
  unfold Oper.wp
  simp only [execOp, ho, ha.eval hx, Instr.box, newVar, newRow, newObj, Sem.run_bind, Sem.run, Sem.run_pure, Result.andThen_ok, Oper.upon]
  refine hn _ _ _ ⟨w.heap.size, rfl, rfl⟩ (HeapOk.new hw (moved_alloc w (.cells v.cells T)) ?_ fun b hb => by (have : b = w.heap.size := hb); omega)
  show (w.alloc (.cells v.cells T)).heap[w.heap.size]? = _
  rw [heap_alloc_new, hus]
theorem opr_box_agg {us : List Value} (ho : o.op = .box T x) (hx : ev F x = some (.agg us.toArray)) : Opr P n o F H fun u H' => ∃ b, u = bptr b 0 ∧ H' = box b us T :: H := opr_box ho hx rfl
theorem cells_one {v : Value} (h : v.oneCell' = true) : v.cells = #[v] := by cases v <;> first | rfl | (simp [Value.oneCell'] at h)
theorem opr_box_one (ho : o.op = .box T x) (hx : ev F x = some v) (hv : v.oneCell' = true) : Opr P n o F H fun u H' => ∃ b, u = bptr b 0 ∧ H' = box b [v] T :: H := opr_box ho hx (cells_one hv)
theorem opr_alloc {us : List Value} {agg : Bool} {sz by' : Nat} [ht : Ty P T agg sz by' z'] (ho : o.op = .alloc T) (hus : z'.cells = us.toArray) : Opr P n o F H fun u H' => ∃ b, u = bptr b 0 ∧ H' = box b us T :: H := fun Q a w next ha hw hn => by
  unfold Oper.wp
  simp only [execOp, ho, Instr.alloc, zero_run ht, newVar, newRow, newObj, Sem.run_bind, Sem.run, Sem.run_pure, Result.andThen_ok, Oper.upon]
  refine hn _ _ _ ⟨w.heap.size, rfl, rfl⟩ (HeapOk.new hw (moved_alloc w (.cells z'.cells T)) ?_ fun b hb => by (have : b = w.heap.size := hb); omega)
  show (w.alloc (.cells z'.cells T)).heap[w.heap.size]? = _
  rw [heap_alloc_new, hus]
theorem opr_new {us : List Value} [hz : Zr P T us] (ho : o.op = .alloc T) : Opr P n o F H fun u H' => ∃ b, u = bptr b 0 ∧ H' = box b us T :: H := by
  obtain ⟨agg, sz, by', z, ht, hc⟩ := hz.h
  exact opr_alloc (ht := ht) ho hc
theorem moved_setRow (w : World) (g : Nat) (cs : Array Value) (S : Nat → Prop) (hS : S g) : Moved S w (w.setRow g cs) := ⟨rfl, rfl, rfl, by simp [World.setRow], fun b _ hb => setRow_other w g b cs (fun e => hb (e ▸ hS))⟩
theorem store_run {agg : Bool} {sz by' : Nat} (ht : Ty P T agg sz by' z') (w : World) (g off : Nat) (t : TypeId) (cs us : List Value) (hg : w.heap[g]? = some (.cells cs.toArray t (0, 0))) (hus : v.cells = us.toArray) (hl : us.length = sz) (hfit : off + us.length ≤ cs.length) (h1 : ∀ u ∈ us, u.oneCell' = true) :
    (storeVar T ⟨g, off, none⟩ v).run P w = .ok () (w.setRow g (splice cs off us).toArray) := by
  have hst := run_storeCells_at P g off t us 0 cs.toArray w hg (by simpa using hfit) h1
  simp only [Nat.add_zero] at hst
  rw [splice_eq cs off us hfit]
  subst hl
  simp only [storeVar, hus, sizeOf_run ht, Sem.run_bind, Result.andThen_ok, List.size_toArray, ne_eq, not_true_eq_false, if_false]
  simpa using hst
theorem opr_store_box {agg : Bool} {sz by' : Nat} [ht : Ty P T agg sz by' z'] {b i : Nat} {cs us cs' : List Value} {t : TypeId} (ho : o.op = .store T x y) (hx : ev F x = some (bptr b i)) (hy : ev F y = some v) (hus : v.cells = us.toArray) (p : Pick (box b cs t) H R) (hl : us.length = sz) (hfit : Nat.ble (i + us.length) cs.length = true) (h1 : us.all (·.oneCell') = true) (hcs : splice cs i us = cs') : Opr P n o F H fun u H' => u = undef ∧ H' = box b cs' t :: R := fun Q a w next ha hw hn => by
  subst hcs
  have hw' := hw.perm p.perm
  have hb := hw'.head
  have := store_run ht w b i t cs us hb hus hl (Nat.le_of_ble_eq_true hfit) (fun u hu => List.all_eq_true.1 h1 u hu)
  unfold Oper.wp
  simp only [execOp, ho, ha.eval hx, ha.eval hy, bptr, Instr.storeAt, Instr.sureAddr, Sem.run_bind, Sem.run_pure, Result.andThen_ok, this, Oper.upon]
  exact hn _ _ _ ⟨rfl, rfl⟩ (HeapOk.upd hw' rfl (moved_setRow w b _ _ rfl) (setRow_heap w b _ _ t _ hb) fun k hk => .inl hk)
theorem opr_store_box_agg {sz by' : Nat} [ht : Ty P T true sz by' z'] {b i : Nat} {cs us cs' : List Value} {t : TypeId} (ho : o.op = .store T x y) (hx : ev F x = some (bptr b i)) (hy : ev F y = some (.agg us.toArray)) (p : Pick (box b cs t) H R) (hl : us.length = sz) (hfit : Nat.ble (i + us.length) cs.length = true) (h1 : us.all (·.oneCell') = true) (hcs : splice cs i us = cs') : Opr P n o F H fun u H' => u = undef ∧ H' = box b cs' t :: R := opr_store_box ho hx hy rfl p hl hfit h1 hcs
theorem opr_store_box_one {by' : Nat} [ht : Ty P T false 1 by' z'] {b i : Nat} {cs cs' : List Value} {t : TypeId} (ho : o.op = .store T x y) (hx : ev F x = some (bptr b i)) (hy : ev F y = some v) (h1 : v.oneCell' = true) (p : Pick (box b cs t) H R) (hfit : Nat.blt i cs.length = true) (hcs : cs.set i v = cs') : Opr P n o F H fun u H' => u = undef ∧ H' = box b cs' t :: R := by
  have hlt : i < cs.length := by simpa using hfit
  refine opr_store_box ho hx hy (us := [v]) (cells_one h1) p rfl (Nat.ble_eq_true_of_le (by simp only [List.length_singleton]; omega)) (by simp [h1]) ?_
  rw [← hcs, splice_eq _ _ _ (by simp only [List.length_singleton]; omega), List.set_eq_take_append_cons_drop, if_pos hlt]
  simp
theorem opr_store_own {agg : Bool} {sz s by' : Nat} [ht : Ty P T agg s by' z'] {i j m e : Nat} {xs us xs' : List Value} (ho : o.op = .store T x y) (hx : ev F x = some (eptr v i sz j)) (hy : ev F y = some u) (hus : u.cells = us.toArray) (p : Pick (own v e sz m xs) H R) (hl : us.length = s) (hm : i < m) (hfit : j + us.length ≤ sz) (h1 : us.all (·.oneCell') = true) (hcs : splice xs (i * sz + j) us = xs') : Opr P n o F H fun u H' => u = undef ∧ H' = own v e sz m xs' :: R := fun Q a w next ha hw hn => by
  subst hcs
  have hw' := hw.perm p.perm
  have hb : w.ownsRow 0 e sz v m xs := hw'.head
  rcases hb.2 with ⟨_, h0⟩ | ⟨g, cap, cur, rfl, hb0, hg, h2, h3, h4, h5⟩
  · omega
  · have hmi : i * sz + sz ≤ m * sz := by
      have h9 : (i + 1) * sz ≤ m * sz := Nat.mul_le_mul_right _ hm
      rw [Nat.add_mul, Nat.one_mul] at h9
      exact h9
    have hmc : m * sz ≤ cap * sz := Nat.mul_le_mul_right _ h2
    have hcl0 : cur.toList.length = cap * sz := by simpa using h4
    have hle : i * sz + j + us.length ≤ cur.toList.length := by omega
    have hle2 : i * sz + j + us.length ≤ xs.length := by rw [hb.1]; omega
    have := store_run (v := u) ht w g (i * sz + j) e cur.toList us (by simpa using hg) hus hl hle (fun u hu => List.all_eq_true.1 h1 u hu)
    unfold Oper.wp
    simp only [execOp, ho, ha.eval hx, ha.eval hy, eptr, eaddr, addr_add, Nat.zero_add, Instr.storeAt, Instr.sureAddr, Sem.run_bind, Sem.run_pure, Result.andThen_ok, this, Oper.upon]
    refine hn _ _ _ ⟨rfl, rfl⟩ (HeapOk.upd hw' rfl (moved_setRow w g _ _ rfl) ⟨by rw [splice_len]; exact hb.1, .inr ⟨g, cap, _, rfl, hb0, setRow_heap w g _ _ e _ hg, h2, h3, ?_, ?_⟩⟩ fun k hk => .inl hk)
    · simp only [List.size_toArray, splice_len, Array.length_toList]; exact h4
    · have hxl : xs.length = m * sz := hb.1
      rw [splice_eq _ _ _ hle, splice_eq _ _ _ hle2, ← h5]
      apply List.ext_getElem?
      intro k
      have hcl : cur.toList.length = cap * sz := by simpa using h4
      simp only [List.getElem?_take, List.getElem?_append, List.length_append, List.length_take, List.getElem?_drop]
      rw [hcl]
      repeat' split
      all_goals (first | rfl | omega | (congr 1; omega))
theorem splice_flat {α : Type} {f : α → List Value} {sz : Nat} (hf : ∀ x, (f x).length = sz) {ys : List α} {i : Nat} {q q' : α} (hq : ys[i]? = some q) {j : Nat} {us : List Value} (hfit : j + us.length ≤ sz) (h : splice (f q) j us = f q') : splice (flat f ys) (i * sz + j) us = flat f (ys.set i q') := by
  have hi := (List.getElem?_eq_some_iff.1 hq).1
  have hmi : i * sz + sz ≤ ys.length * sz := by
    have h9 : (i + 1) * sz ≤ ys.length * sz := Nat.mul_le_mul_right _ hi
    rw [Nat.add_mul, Nat.one_mul] at h9
    exact h9
  rw [splice_eq _ _ _ (by rw [flat_len f sz hf]; omega)]
  rw [splice_eq _ _ _ (by rw [hf]; omega)] at h
  apply List.ext_getElem?
  intro k
  by_cases hk : k < ys.length * sz
  · have hsz : 0 < sz := by rcases Nat.eq_zero_or_pos sz with h0 | h0; (subst h0; simp at hk); exact h0
    have hk1 : k / sz < ys.length := (Nat.div_lt_iff_lt_mul hsz).2 hk
    have hk2 : k % sz < sz := Nat.mod_lt _ hsz
    have hdm : k / sz * sz + k % sz = k := by rw [Nat.mul_comm]; exact Nat.div_add_mod k sz
    obtain ⟨y0, hy0⟩ : ∃ y0, ys[k / sz]? = some y0 := ⟨_, List.getElem?_eq_getElem hk1⟩
    by_cases hik : k / sz = i
    · rw [hik] at hy0 hdm
      have : (ys.set i q')[i]? = some q' := by rw [List.getElem?_set]; simp [hi]
      obtain ⟨u, hu⟩ : ∃ u, (f q')[k % sz]? = some u := ⟨_, List.getElem?_eq_getElem (by rw [hf]; exact hk2)⟩
      have e1 := flat_at f sz hf (ys.set i q') i q' this (k % sz) u hu
      rw [hdm] at e1
      rw [e1, ← hu, ← h]
      have hqy : q = y0 := by rw [hq] at hy0; exact Option.some.inj hy0
      subst hqy
      obtain ⟨u0, hu0⟩ : ∃ u, (f q)[k % sz]? = some u := ⟨_, List.getElem?_eq_getElem (by rw [hf]; exact hk2)⟩
      have e0 := flat_at f sz hf ys i q hq (k % sz) u0 hu0
      rw [hdm] at e0
      have hfl : (flat f ys).length = ys.length * sz := flat_len f sz hf ys
      have hql : (f q).length = sz := hf q
      simp only [List.getElem?_append, List.length_append, List.length_take, List.getElem?_take, List.getElem?_drop, hfl, hql]
      have hkk : k = i * sz + k % sz := hdm.symm
      by_cases c1 : k % sz < j
      · rw [if_pos (by omega), if_pos (by omega), if_pos (by omega), if_pos (by omega), if_pos (by omega), if_pos (by omega), e0, hu0]
      · by_cases c2 : k % sz < j + us.length
        · rw [if_pos (by omega), if_neg (by omega), if_pos (by omega), if_neg (by omega)]
          congr 1
          omega
        · rw [if_neg (by omega), if_neg (by omega)]
          rw [show i * sz + j + us.length + (k - (min (i * sz + j) (ys.length * sz) + us.length)) = k from by omega, show j + us.length + (k % sz - (min j sz + us.length)) = k % sz from by omega, e0, hu0]
    · have : (ys.set i q')[k / sz]? = some y0 := by rw [List.getElem?_set, if_neg (Ne.symm hik)]; exact hy0
      obtain ⟨u, hu⟩ : ∃ u, (f y0)[k % sz]? = some u := ⟨_, List.getElem?_eq_getElem (by rw [hf]; exact hk2)⟩
      have e1 := flat_at f sz hf (ys.set i q') (k / sz) y0 this (k % sz) u hu
      have e0 := flat_at f sz hf ys (k / sz) y0 hy0 (k % sz) u hu
      rw [hdm] at e0 e1
      rw [e1]
      have hfl : (flat f ys).length = ys.length * sz := flat_len f sz hf ys
      simp only [List.getElem?_append, List.length_append, List.length_take, List.getElem?_take, List.getElem?_drop, hfl]
      have hne : k < i * sz ∨ i * sz + sz ≤ k := by
        rcases Nat.lt_or_ge (k / sz) i with h1 | h1
        · left
          have h9 : (k / sz + 1) * sz ≤ i * sz := Nat.mul_le_mul_right _ h1
          rw [Nat.add_mul, Nat.one_mul] at h9
          omega
        · right
          have h9 : (i + 1) * sz ≤ k / sz * sz := Nat.mul_le_mul_right _ (by omega)
          rw [Nat.add_mul, Nat.one_mul] at h9
          omega
      rcases hne with hne | hne
      · rw [if_pos (by omega), if_pos (by omega), if_pos (by omega), e0]
      · rw [if_neg (by omega), show i * sz + j + us.length + (k - (min (i * sz + j) (ys.length * sz) + us.length)) = k from by omega, e0]
  · have e1 : (flat f (ys.set i q'))[k]? = none := List.getElem?_eq_none (by rw [flat_len f sz hf]; simp; omega)
    rw [e1]
    apply List.getElem?_eq_none
    have hfl : (flat f ys).length = ys.length * sz := flat_len f sz hf ys
    simp only [List.length_append, List.length_take, List.length_drop, hfl]
    omega
theorem opr_store_ownm {α : Type} {f : α → List Value} {ys : List α} {q q' : α} {agg : Bool} {sz s by' : Nat} [ht : Ty P T agg s by' z'] {i j m e : Nat} {us : List Value} (ho : o.op = .store T x y) (hx : ev F x = some (eptr v i sz j)) (hy : ev F y = some u) (hus : u.cells = us.toArray) (p : Pick (own v e sz m (flat f ys)) H R) (hl : us.length = s) (hm : i < m) (hf : ∀ x, (f x).length = sz) (hq : ys[i]? = some q) (hfit : Nat.ble (j + us.length) sz = true) (h1 : us.all (·.oneCell') = true) (hcs : splice (f q) j us = f q') : Opr P n o F H fun u H' => u = undef ∧ H' = own v e sz m (flat f (ys.set i q')) :: R :=
  opr_store_own ho hx hy hus p hl hm (Nat.le_of_ble_eq_true hfit) h1 (splice_flat hf hq (Nat.le_of_ble_eq_true hfit) hcs)

/-! ### append -/
theorem own_value {w : World} {B e sz m : Nat} {v : Value} {xs : List Value} (h : w.ownsRow B e sz v m xs) : ∃ q cap, v = .slice q m cap := by
  rcases h.2 with ⟨rfl, rfl⟩ | ⟨g, cap, cur, rfl, _⟩
  · exact ⟨_, _, rfl⟩
  · exact ⟨_, _, rfl⟩
theorem grown_moved {w w' : World} {v : Value} (h : w.grownBy w' v.ownBlock) : Moved (fun k => v.ownBlock = some k) w w' := ⟨h.os, h.tape, h.output, h.size, fun b hb hn => h.block b hb fun e => hn e.symm⟩
/-- 'append(s, x...)': s nil or the call's own, x any slice -/
theorem run_appS {e sz by' : Nat} {t : TypeId} (hT : SliceTy P t e sz by' z') {w : World} (ty : TypeId)
    {α : Type} (f : α → List Value) (hf : ∀ y, (f y).length = sz) (hf1 : ∀ y, ∀ u ∈ f y, u.oneCell' = true)
    (v u : Value) (m : Nat) (xs : List Value) (ys : List α)
    (hown : w.ownsRow 0 e sz v m xs) (hsl : SliceAt w sz u (ys.map f))
    (hbytes : (m + ys.length) * by' ≤ 140737488355328) (h63 : m + ys.length ≤ maxLen) :
    ∃ v' w', (Builtin.append_ #[t, t] ty #[v, u]).run P w = .ok v' w' ∧ w'.ownsRow 0 e sz v' (m + ys.length) (xs ++ flat f ys) ∧ w.grownBy w' v.ownBlock ∧ (v'.ownBlock = v.ownBlock ∨ v'.ownBlock = some w.heap.size) := by
  by_cases hnil : u = .slice none 0 0
  · subst hnil
    have h0 : ys = [] := by
      rcases hsl with ⟨h0, _⟩ | ⟨b, off, cap, h0, _⟩
      · simpa using h0
      · simp at h0
    subst h0
    exact ⟨v, w, run_append_none hT hown, by simpa [flat] using hown, grown_refl _ _, .inl rfl⟩
  · obtain ⟨h1, h2, h3, i, hi1, hi2, hi3, hi4⟩ := hT
    obtain ⟨q, cap, b, off, rfl, hq, hc⟩ := hsl.view
    simp only [List.length_map] at hq hnil ⊢
    have hqs : ∃ ad, q = some ad := by
      cases q with
      | some ad => exact ⟨ad, rfl⟩
      | none =>
        exfalso
        rcases hsl with ⟨h0, hv⟩ | ⟨b, off, cap, h0, _⟩
        · have h9 : ys = [] := by simpa using h0
          subst h9
          rcases hv with hv | ⟨_, _, hv⟩
          · simp at hv; subst hv; exact hnil rfl
          · simp at hv
        · simp at h0
    obtain ⟨ad, rfl⟩ := hqs
    have hnews : ∀ j y, (flat f ys)[j]? = some y → w.cell? (ad.add j) = some y := by
      intro j y hj
      have hjl := (List.getElem?_eq_some_iff.1 hj).1
      rw [flat_len f sz hf] at hjl
      have hi : j / sz < ys.length := (Nat.div_lt_iff_lt_mul h3).2 hjl
      have hm : j % sz < sz := Nat.mod_lt _ h3
      obtain ⟨y0, hy0⟩ : ∃ y0, ys[j / sz]? = some y0 := ⟨_, List.getElem?_eq_getElem hi⟩
      obtain ⟨u, hu⟩ : ∃ u, (f y0)[j % sz]? = some u := ⟨_, List.getElem?_eq_getElem (by rw [hf]; exact hm)⟩
      have hat := flat_at f sz hf ys (j / sz) y0 hy0 (j % sz) u hu
      have hdm : j / sz * sz + j % sz = j := by rw [Nat.mul_comm]; exact Nat.div_add_mod j sz
      rw [hdm, hj] at hat
      have hyu := Option.some.inj hat
      subst hyu
      obtain ⟨hqa, _⟩ := hq (j / sz) hi
      have hqa2 := Option.some.inj hqa
      subst hqa2
      have hcell := hc (j / sz) (f y0) (by rw [List.getElem?_map, hy0]; rfl) (j % sz) y hu
      rw [addr_add, ← hdm, ← Nat.add_assoc]
      exact hcell
    have hone : ∀ u ∈ flat f ys, u.oneCell' = true := by
      intro u hu
      unfold flat at hu
      obtain ⟨l, hl, hul⟩ := List.mem_flatten.1 hu
      obtain ⟨y, _, rfl⟩ := List.mem_map.1 hl
      exact hf1 y u hul
    obtain ⟨v', w', hr, g1, g2, _, g3⟩ := run_append_own_at (P := P) (w := w) 0 t ty e i z' sz by' h1 hi1 hi2 hi3 hi4 h2 h3 v m xs hown ad ys.length cap (flat f ys) (flat_len f sz hf ys) hnews hone h63 hbytes (Nat.zero_le _)
    exact ⟨v', w', hr, g1, g2, g3⟩
theorem sliceTy_of {t e sz by' : Nat} {agg : Bool} (ht : Sli P t e) (hs : Ty P e agg sz by' z') (hp : Nat.blt 0 sz = true) : SliceTy P t e sz by' z' := by
  obtain ⟨i, d, hi, _, _, h1, h2, h3⟩ := hs.info
  exact ⟨ht.h, hs.hz, by simpa using hp, i, hi, h3, h1, h2⟩
theorem own_grown {w w' : World} {v v' : Value} {e sz m m' : Nat} {xs xs' : List Value} (hw : HeapOk (own v e sz m xs :: R) w) (hg : w.grownBy w' v.ownBlock) (hn : w'.ownsRow 0 e sz v' m' xs') (hb : v'.ownBlock = v.ownBlock ∨ v'.ownBlock = some w.heap.size) : HeapOk (own v' e sz m' xs' :: R) w' :=
  HeapOk.upd hw rfl (grown_moved hg) hn fun b hb' => by
    have hb2 : v'.ownBlock = some b := hb'
    rcases hb with h | h
    · exact .inl (show v.ownBlock = some b from h.symm.trans hb2)
    · rw [h] at hb2
      have := Option.some.inj hb2
      exact .inr (by omega)
/-- 'append(s, x...)' with s nil or the call's own, x read -/
theorem opr_append {t e sz by' m cnt : Nat} {agg : Bool} [ht : Sli P t e] [hs : Ty P e agg sz by' z'] {α : Type} {f : α → List Value} {ys : List α} {xs : List Value} (ho : o.op = .call { callee := .builtin .append, args := #[x, y], argTypes := #[t, t] }) (hx : ev F x = some v) (hy : ev F y = some u)
    (p : Pick (own v e sz m xs) H R) {S : List Ent} (q : Pick (sl sz u (ys.map f)) R S) (hf : ∀ y, (f y).length = sz) (hf1 : ∀ y, ∀ u ∈ f y, u.oneCell' = true) (hsz : Nat.blt 0 sz = true) (hb : (m + ys.length) * by' ≤ 140737488355328) (h63 : m + ys.length ≤ maxLen) :
    Opr P n o F H fun r H' => ∃ q' cap', r = .slice q' (m + ys.length) cap' ∧ H' = own (.slice q' (m + ys.length) cap') e sz (m + ys.length) (xs ++ flat f ys) :: R := fun Q a w next ha hw hn => by
  have hw' := hw.perm p.perm
  obtain ⟨v', w', hr, g1, g2, g3⟩ := run_appS (sliceTy_of ht hs hsz) o.type f hf hf1 v u m xs ys hw'.head (hw'.tail.1 _ q.mem) hb h63
  obtain ⟨q', cap', rfl⟩ := own_value g1
  unfold Oper.wp
  simp only [execOp, ho, resolve, invoke, builtin, List.map_toArray, List.map_cons, List.map_nil, ha.eval hx, ha.eval hy, Sem.run_bind, Sem.run_pure, Result.andThen_ok, hr, Oper.upon]
  exact hn _ _ _ ⟨q', cap', rfl, rfl⟩ (own_grown hw' g2 g1 g3)
theorem own_nil (w : World) (e sz : Nat) : w.ownsRow 0 e sz (.slice none 0 0) 0 [] := World.ownsRow_nil _ _ _ _
theorem heap_nil (H : List Ent) (e sz : Nat) : HSub H (own (.slice none 0 0) e sz 0 [] :: H) := fun w h => by
  refine ⟨fun f hf => ?_, List.pairwise_cons.2 ⟨fun f hf _ b h1 _ => (by cases h1), h.2⟩⟩
  rcases List.mem_cons.1 hf with rfl | hf
  · exact own_nil w e sz
  · exact h.1 f hf
/-- 'append([]T(nil), x...)' -/
theorem opr_append_nil {t e sz by' : Nat} {agg : Bool} [ht : Sli P t e] [hs : Ty P e agg sz by' z'] {α : Type} {f : α → List Value} {ys : List α} (ho : o.op = .call { callee := .builtin .append, args := #[x, y], argTypes := #[t, t] }) (hx : ev F x = some (.slice none 0 0)) (hy : ev F y = some u)
    (q : Pick (sl sz u (ys.map f)) H R) (hf : ∀ y, (f y).length = sz) (hf1 : ∀ y, ∀ u ∈ f y, u.oneCell' = true) (hsz : Nat.blt 0 sz = true) (hb : ys.length * by' ≤ 140737488355328) (h63 : ys.length ≤ maxLen) :
    Opr P n o F H fun r H' => ∃ q' cap', r = .slice q' ys.length cap' ∧ H' = own (.slice q' ys.length cap') e sz ys.length (flat f ys) :: H := fun Q a w next ha hw hn => by
  have hw' := heap_nil H e sz w hw
  obtain ⟨v', w', hr, g1, g2, g3⟩ := run_appS (sliceTy_of ht hs hsz) o.type f hf hf1 (.slice none 0 0) u 0 [] ys hw'.head (hw.1 _ q.mem) (by rw [Nat.zero_add]; exact hb) (by rw [Nat.zero_add]; exact h63)
  rw [Nat.zero_add, List.nil_append] at g1
  obtain ⟨q', cap', rfl⟩ := own_value g1
  unfold Oper.wp
  simp only [execOp, ho, resolve, invoke, builtin, List.map_toArray, List.map_cons, List.map_nil, ha.eval hx, ha.eval hy, Sem.run_bind, Sem.run_pure, Result.andThen_ok, hr, Oper.upon]
  exact hn _ _ _ ⟨q', cap', rfl, rfl⟩ (own_grown hw' g2 g1 g3)
theorem flat_app {α : Type} (f : α → List Value) (xs ys : List α) : flat f xs ++ flat f ys = flat f (xs ++ ys) := by simp [flat]
/-- 'append(s, x, ..)': s nil or the call's own, the elements laid by this very statement -/
theorem opr_append_lit {t e e' sz by' m cnt : Nat} {agg : Bool} [ht : Sli P t e] [hs : Ty P e agg sz by' z'] {α : Type} (f : α → List Value) (ys : List α) {zs : List α} {news : List Value} (ho : o.op = .call { callee := .builtin .append, args := #[x, y], argTypes := #[t, t] }) (hx : ev F x = some v) (hy : ev F y = some u)
    (p : Pick (own v e sz m (flat f zs)) H R) {S : List Ent} (q : Pick (own u e' sz cnt news) R S) (hn : news = flat f ys) (hc : cnt = ys.length) (hm : m = zs.length) (hf : ∀ y, (f y).length = sz) (hf1 : ∀ y, ∀ u ∈ f y, u.oneCell' = true) (hsz : Nat.blt 0 sz = true) (hb : (zs.length + ys.length) * by' ≤ 140737488355328) (h63 : zs.length + ys.length ≤ maxLen) :
    Opr P n o F H fun r H' => ∃ q' cap', r = .slice q' (zs ++ ys).length cap' ∧ H' = own (.slice q' (zs ++ ys).length cap') e sz (zs ++ ys).length (flat f (zs ++ ys)) :: S := fun Q a w next ha hw hn' => by
  have hw' := hw.perm p.perm
  subst hn
  subst hm
  have hu : SliceAt w sz u (ys.map f) := own_sliceN hf hc (hw'.tail.1 _ q.mem)
  obtain ⟨v', w', hr, g1, g2, g3⟩ := run_appS (sliceTy_of ht hs hsz) o.type f hf hf1 v u zs.length (flat f zs) ys hw'.head hu hb h63
  rw [flat_app, ← List.length_append] at g1
  obtain ⟨q', cap', rfl⟩ := own_value g1
  unfold Oper.wp
  simp only [execOp, ho, resolve, invoke, builtin, List.map_toArray, List.map_cons, List.map_nil, ha.eval hx, ha.eval hy, Sem.run_bind, Sem.run_pure, Result.andThen_ok, hr, Oper.upon]
  have h9 := own_grown hw' g2 g1 g3
  refine hn' _ _ _ ⟨q', cap', rfl, rfl⟩ ?_
  exact (h9.perm ((q.perm.cons _).trans (List.Perm.swap _ _ _))).tail
/-- ..to nil -/
theorem opr_append_lit0 {t e e' sz by' cnt : Nat} {agg : Bool} [ht : Sli P t e] [hs : Ty P e agg sz by' z'] {α : Type} (f : α → List Value) (ys : List α) {news : List Value} (ho : o.op = .call { callee := .builtin .append, args := #[x, y], argTypes := #[t, t] }) (hx : ev F x = some (.slice none 0 0)) (hy : ev F y = some u)
    (q : Pick (own u e' sz cnt news) H R) (hn : news = flat f ys) (hc : cnt = ys.length) (hf : ∀ y, (f y).length = sz) (hf1 : ∀ y, ∀ u ∈ f y, u.oneCell' = true) (hsz : Nat.blt 0 sz = true) (hb : ys.length * by' ≤ 140737488355328) (h63 : ys.length ≤ maxLen) :
    Opr P n o F H fun r H' => ∃ q' cap', r = .slice q' ys.length cap' ∧ H' = own (.slice q' ys.length cap') e sz ys.length (flat f ys) :: R := fun Q a w next ha hw hn' =>
  opr_append_lit (H := own (.slice none 0 0) e sz 0 [] :: H) (zs := []) f ys ho hx hy (.here) q hn hc rfl hf hf1 hsz (by simpa using hb) (by simpa using h63) Q a w next ha (heap_nil H e sz w hw) hn'
/-- an own row, read from now on -/
theorem pick_sl {e sz m : Nat} {α : Type} {f : α → List Value} {ys : List α} {v : Value} (p : Pick (own v e sz m (flat f ys)) H R) (hf : ∀ y, (f y).length = sz) (hm : m = ys.length) : HSub H (sl sz v (ys.map f) :: R) := fun w hw => by
  have hw' := hw.perm p.perm
  refine HeapOk.lesser hw' (fun h => by cases h) (own_sliceN hf hm hw'.head) fun b hb => hb.2

/-! ### values made of parts -/
def layOf (P : Program) (t : TypeId) : Option (Value × List (Nat × Nat)) :=
  match P.info? t, P.underlying t with
  | some it, some (.struct fields) =>
    match it.zero, fields.toList.mapM (fun f => (P.info? f.type).map fun i => (f.offset, i.size)) with
    | some z, some places => some (z, places)
    | _, _ => none
  | _, _ => none
class Lay (P : Program) (t : TypeId) (z : outParam Value) (pl : outParam (List (Nat × Nat))) : Prop where
  h : layOf P t = some (z, pl)
/-- parts laid over cells, each at its place -/
inductive Bld (pl : Nat → Option (Nat × Nat)) : List (Nat × Value) → List Value → List Value → Prop
  | nil {cs} : Bld pl [] cs cs
  | cons {i u rest cs us cs' out off sz} : pl i = some (off, sz) → u.cells = us.toArray → us.length = sz → Nat.ble (off + sz) cs.length = true → splice cs off us = cs' → Bld pl rest cs' out → Bld pl ((i, u) :: rest) cs out
theorem bld_one {pl : Nat → Option (Nat × Nat)} {i : Nat} {u : Value} {rest : List (Nat × Value)} {cs cs' out : List Value} {off : Nat} (hp : pl i = some (off, 1)) (h1 : u.oneCell' = true) (hfit : Nat.blt off cs.length = true) (hs : cs.set off u = cs') (hr : Bld pl rest cs' out) : Bld pl ((i, u) :: rest) cs out := by
  have hlt : off < cs.length := by simpa using hfit
  have hc : u.cells = [u].toArray := by cases u <;> first | rfl | (simp [Value.oneCell'] at h1)
  refine .cons hp hc rfl (Nat.ble_eq_true_of_le (by omega)) ?_ hr
  rw [← hs, splice_eq _ _ _ (by simp only [List.length_singleton]; omega), List.set_eq_take_append_cons_drop, if_pos hlt]
  simp
theorem bld_agg {pl : Nat → Option (Nat × Nat)} {i : Nat} {us : List Value} {rest : List (Nat × Value)} {cs cs' out : List Value} {off sz : Nat} (hp : pl i = some (off, sz)) (hl : us.length = sz) (hfit : Nat.ble (off + sz) cs.length = true) (hs : splice cs off us = cs') (hr : Bld pl rest cs' out) : Bld pl ((i, .agg us.toArray) :: rest) cs out := .cons hp rfl hl hfit hs hr
theorem foldl_splice : ∀ (us : List Value) (off k : Nat) (cs : List Value), off + k + us.length ≤ cs.length → (us.zipIdx k).foldl (fun (c : Array Value) (p : Value × Nat) => c.setIfInBounds (off + p.2) p.1) cs.toArray = (splice cs (off + k) us).toArray := by
  intro us
  induction us with
  | nil => intro off k cs _; cases cs <;> simp [splice]
  | cons u us ih =>
    intro off k cs h
    simp only [List.length_cons] at h
    rw [List.zipIdx_cons, List.foldl_cons]
    have e1 : (cs.toArray.setIfInBounds (off + k) u) = (cs.set (off + k) u).toArray := by simp
    rw [e1, ih off (k + 1) _ (by simp; omega)]
    congr 1
    rw [splice_eq _ _ _ (by simp; omega), splice_eq _ _ _ (by simp; omega)]
    apply List.ext_getElem?
    intro j
    simp only [List.getElem?_append, List.length_append, List.length_take, List.length_set, List.getElem?_take, List.getElem?_drop, List.getElem?_set, List.length_cons]
    by_cases c1 : j < off + k
    · rw [if_pos (by omega), if_pos (by omega), if_pos (by omega), if_neg (by omega), if_pos (by omega), if_pos (by omega), if_pos (by omega)]
    · by_cases c2 : j = off + k
      · subst c2
        rw [if_pos (by omega), if_pos (by omega), if_pos (by omega), if_pos rfl, if_pos (by omega), if_pos (by omega), if_neg (by omega)]
        rw [show off + k - min (off + k) cs.length = 0 from by omega]
        rfl
      · by_cases c3 : j < off + k + 1 + us.length
        · rw [if_pos (by omega), if_neg (by omega), if_pos (by omega), if_neg (by omega)]
          rw [show j - min (off + k) cs.length = (j - min (off + (k + 1)) cs.length) + 1 from by omega]
          rfl
        · rw [if_neg (by omega), if_neg (by omega), if_neg (by omega)]
          congr 1
          omega
theorem fill_bld {pl : Nat → Option (Nat × Nat)} : ∀ {ps : List (Nat × Value)} {cs out : List Value}, Bld pl ps cs out → Instr.fill pl cs.toArray ps = some out.toArray := by
  intro ps cs out h
  induction h with
  | nil => rfl
  | @cons i u rest cs us cs' out off sz hf hus hl hfit hsp _ ih =>
    have hfit' := Nat.le_of_ble_eq_true hfit
    unfold Instr.fill
    subst hl
    simp only [hf, hus, List.size_toArray, ne_eq, not_true_eq_false, decide_false, Bool.false_or, decide_eq_true_eq, if_neg (Nat.not_lt.2 hfit')]
    have := foldl_splice us off 0 cs (by omega)
    simp only [Nat.add_zero] at this
    rw [show us.toArray.zipIdx = (us.zipIdx 0).toArray from by simp, List.foldl_toArray, this, hsp]
    exact ih
/-- the parts of a literal, their values known -/
def evp (F : Frm) : List (Nat × Operand) → Option (List (Nat × Value))
  | [] => some []
  | (i, x) :: l => match ev F x, evp F l with
    | some v, some r => some ((i, v) :: r)
    | _, _ => none
theorem evp_eval {a : Act} (ha : Ok F n a) : ∀ {l : List (Nat × Operand)} {ps : List (Nat × Value)}, evp F l = some ps → l.map (fun p => (p.1, a.eval p.2)) = ps := by
  intro l
  induction l with
  | nil => intro ps h; simpa [evp] using h
  | cons p l ih =>
    obtain ⟨i, x⟩ := p
    intro ps h
    simp only [evp] at h
    split at h
    · rename_i v r hv hr
      simp only [Option.some.injEq] at h
      subst h
      simp [ih hr, ha.eval hv]
    · cases h
theorem q_build {pl : List (Nat × Nat)} [hl : Lay P T z' pl] {parts : List (Nat × Operand)} {ps : List (Nat × Value)} {cs out : List Value} (ho : o.op = .build T parts.toArray) (hp : evp F parts = some ps) (hz : z'.cells = cs.toArray) (hb : Bld (fun i => pl[i]?) ps cs out) : Qt P n o F H (.agg out.toArray) := fun a w ha hw => by
  have h1 := hl.h
  have hbt : P.built T ps = some out.toArray := by
    unfold layOf at h1
    unfold Program.built
    split at h1
    · rename_i it fields hi hu
      simp only [hi, hu]
      split at h1
      · rename_i z places hz' hpl
        simp only [Option.some.injEq, Prod.mk.injEq] at h1
        obtain ⟨rfl, rfl⟩ := h1
        simp only [hz', hpl]
        have := fill_bld hb
        rw [← hz] at this
        simpa using this
      · cases h1
    · cases h1
  have he := evp_eval ha hp
  have : (Instr.build T (parts.toArray.map fun (i, x) => (i, a.eval x))).run P w = .ok (.agg out.toArray) w := by
    apply run_build
    rw [← hbt]
    congr 1
    simpa using he
  simp only [execOp, ho, Sem.run_bind, this, Result.andThen_ok, Sem.run_pure]
theorem zr_cells {pl : List (Nat × Nat)} {cs : List Value} (hl : Lay P T z' pl) (hz : Zr P T cs) : z'.cells = cs.toArray := by
  obtain ⟨agg, sz, by', z2, ht, hc⟩ := hz.h
  obtain ⟨i, d, hi, hd, _, _, _, hzero⟩ := ht.info
  have h1 := hl.h
  unfold layOf at h1
  split at h1
  · rename_i it fields hi2 hu
    split at h1
    · rename_i z places hz' hpl
      simp only [Option.some.injEq, Prod.mk.injEq] at h1
      rw [hi] at hi2
      cases hi2
      rw [hzero] at hz'
      cases hz'
      rw [← h1.1]
      exact hc
    · cases h1
  · cases h1
theorem q_mk {pl : List (Nat × Nat)} {cs : List Value} [hl : Lay P T z' pl] [hz : Zr P T cs] {parts : List (Nat × Operand)} {ps : List (Nat × Value)} {out : List Value} (ho : o.op = .build T parts.toArray) (hp : evp F parts = some ps) (hb : Bld (fun i => pl[i]?) ps cs out) : Qt P n o F H (.agg out.toArray) := q_build ho hp (zr_cells hl hz) hb
/-- len zero elements, one behind the other -/
def zrow (z : Value) (len : Nat) : List Value := (List.replicate len z.cells.toList).flatten
theorem zrow_eq {z : Value} {sz : Nat} (hz : z.cells.size = sz) (len : Nat) : (Array.range (len * sz)).map (z.cells[· % z.cells.size]!) = (zrow z len).toArray := by
  apply Array.ext_getElem?
  intro i
  subst hz
  have hfl : (zrow z len).length = len * z.cells.size := by
    simp [zrow, List.length_flatten, List.sum_replicate_nat]
  by_cases hi : i < len * z.cells.size
  · have hpos : 0 < z.cells.size := by rcases Nat.eq_zero_or_pos z.cells.size with h0 | h0; (rw [h0] at hi; simp at hi); exact h0
    have h1 : i / z.cells.size < len := (Nat.div_lt_iff_lt_mul hpos).2 hi
    have h2 : i % z.cells.size < z.cells.size := Nat.mod_lt _ hpos
    have hdm : i / z.cells.size * z.cells.size + i % z.cells.size = i := by rw [Nat.mul_comm]; exact Nat.div_add_mod i _
    have h3 := flat_at (α := Nat) (fun _ => z.cells.toList) z.cells.size (by simp) (List.replicate len 0) (i / z.cells.size) 0 (by rw [List.getElem?_replicate, if_pos h1]) (i % z.cells.size) (z.cells[i % z.cells.size]'h2) (by simp)
    rw [hdm] at h3
    have h4 : zrow z len = flat (fun _ : Nat => z.cells.toList) (List.replicate len 0) := by simp [zrow, flat]
    have h5 : (zrow z len).toArray[i]? = some z.cells[i % z.cells.size] := by rw [List.getElem?_toArray, h4]; exact h3
    rw [h5]
    simp [hi, h2]
  · rw [Array.getElem?_eq_none (by simpa using Nat.le_of_not_lt hi), Array.getElem?_eq_none (by simp only [List.size_toArray, hfl]; omega)]
theorem opr_buildSlice {t e len sz by' : Nat} {agg : Bool} [ht : Sli P t e] [hs : Ty P e agg sz by' z'] {parts : List (Nat × Operand)} {ps : List (Nat × Value)} {cs out : List Value} (ho : o.op = .buildSlice t len parts.toArray) (hp : evp F parts = some ps) (hz : zrow z' len = cs) (hb : Bld (fun i => some (i * sz, sz)) ps cs out) (hol : out.length = len * sz) (hl : Nat.ble len 100000 = true) (hlz : len * sz ≤ 16777216) (hlp : Nat.blt 0 (len * sz) = true) : Opr P n o F H fun u H' => ∃ q, u = .slice q len len ∧ H' = own (.slice q len len) e sz len out :: H := fun Q a w next ha hw hn => by
  have he := evp_eval ha hp
  have hlp' : 0 < len * sz := by simpa using hlp
  have hfill : Instr.fill (fun i => some (i * sz, sz)) ((Array.range (len * sz)).map (z'.cells[· % z'.cells.size]!)) ps = some out.toArray := by
    rw [zrow_eq hs.hz, hz]
    exact fill_bld hb
  have hrun : (Instr.buildSlice t len (parts.toArray.map fun (i, x) => (i, a.eval x))).run P w = .ok (.slice (some ⟨w.heap.size, 0, none⟩) len len) (w.alloc (.cells out.toArray e)) := by
    have e1 : (parts.toArray.map fun (i, x) => (i, a.eval x)).toList = ps := by simpa using he
    unfold Instr.buildSlice
    simp only [Sem.run_bind, run_underlying ht.h, Result.andThen_ok, sizeOf_run hs, if_neg (show ¬ len * sz > 2 ^ 24 from by omega), if_neg (show ¬ len * sz = 0 from by omega), Sem.run_pure, zero_run hs, e1, hfill]
    rfl
  unfold Oper.wp
  simp only [execOp, ho, Sem.run_bind, hrun, Result.andThen_ok, Sem.run_pure, Oper.upon]
  refine hn _ _ _ ⟨some ⟨w.heap.size, 0, none⟩, rfl, rfl⟩ (HeapOk.new hw (moved_alloc w (.cells out.toArray e)) ⟨hol, .inr ⟨w.heap.size, len, out.toArray, rfl, Nat.zero_le _, heap_alloc_new _ _, Nat.le_refl _, ?_, by simpa using hol, ?_⟩⟩ fun b hb => ?_)
  · have := Nat.le_of_ble_eq_true hl
    unfold maxLen
    omega
  · simp [← hol]
  · have : w.heap.size = b := Option.some.inj hb
    omega

/-! ### calls -/
def evl (F : Frm) : List Operand → Option (List Value)
  | [] => some []
  | x :: l => match ev F x, evl F l with
    | some v, some r => some (v :: r)
    | _, _ => none
theorem evl_eval {a : Act} (ha : Ok F n a) : ∀ {l : List Operand} {vs : List Value}, evl F l = some vs → l.map a.eval = vs := by
  intro l
  induction l with
  | nil => intro vs h; simpa [evl] using h
  | cons x l ih =>
    intro vs h
    simp only [evl] at h
    split at h
    · rename_i v r hv hr
      simp only [Option.some.injEq] at h
      subst h
      simp [ih hr, ha.eval hv]
    · cases h
theorem callFunc_run {f : FuncId} [hc : Cal P f] (args : Array Value) (w : World) : (callFunc f args).run P w = .ok (.enter f args) w := by
  have h := hc.h
  obtain ⟨fn, hf, e⟩ := Option.map_eq_some_iff.1 h
  simp only [Prod.mk.injEq] at e
  have h1 : fn.body.isNone = false := by cases hb : fn.body <;> simp [hb] at e ⊢
  simp only [callFunc, program, Sem.run_bind, Sem.run, Result.andThen_ok, hf, e.2, h1, Bool.false_eq_true, if_false, Sem.run_pure]
theorem opr_call {f : FuncId} [hc : Cal P f] {args : List Operand} {ts : Array TypeId} {vs : List Value} {C S : List Ent} {Rs : Value → List Ent → Prop} (ho : o.op = .call { callee := .value (.func f), args := args.toArray, argTypes := ts }) (hs : Ct P f vs C Rs) (hv : evl F args = some vs) (p : Picks C H S) : Opr P n o F H fun v H' => ∃ H1, Rs v H1 ∧ H' = H1 ++ S := fun Q a w next ha hw hn => by
  have he := evl_eval ha hv
  have e1 : args.toArray.map a.eval = vs.toArray := by simpa using he
  unfold Oper.wp
  simp only [execOp, ho, resolve, Deferred.ofValue, Act.eval, invoke, e1, Sem.run_bind, Sem.run_pure, Result.andThen_ok, callFunc_run]
  simp only [Array.append_empty, List.append_toArray, List.nil_append, Oper.upon]
  refine (hs.go S w (p.ok hw)).mono ?_
  rintro e w' ⟨v, H1, rfl, h1, h2⟩
  exact hn v _ w' ⟨H1, h1, rfl⟩ h2
theorem opr_call_s {f : FuncId} [hc : Cal P f] {args : List Operand} {ts : Array TypeId} {vs : List Value} {C S : List Ent} {u : Value} (ho : o.op = .call { callee := .value (.func f), args := args.toArray, argTypes := ts }) (hs : Ct P f vs C fun v H' => v = u ∧ H' = []) (hv : evl F args = some vs) (p : Picks C H S) : Opr P n o F H fun v H' => v = u ∧ H' = S := fun Q a w next ha hw hn =>
  opr_call ho hs hv p Q a w next ha hw fun v H' w' ⟨H1, ⟨h1, h2⟩, h3⟩ hw' => hn v H' w' ⟨h1, by rw [h3, h2]; rfl⟩ hw'
theorem opr_callv {f : FuncId} [hc : Cal P f] {x : Operand} {first cap : List Value} {args : List Operand} {ts : Array TypeId} {vs : List Value} {C S : List Ent} {Rs : Value → List Ent → Prop} (ho : o.op = .call { callee := .value x, args := args.toArray, argTypes := ts }) (hx : ev F x = some (.func (.func f) first.toArray cap.toArray)) (hv : evl F args = some vs) (hs : Ct P f (first ++ vs ++ cap) C Rs) (p : Picks C H S) : Opr P n o F H fun v H' => ∃ H1, Rs v H1 ∧ H' = H1 ++ S := fun Q a w next ha hw hn => by
  have he := evl_eval ha hv
  have e1 : args.toArray.map a.eval = vs.toArray := by simpa using he
  have e2 : first.toArray ++ vs.toArray ++ cap.toArray = (first ++ vs ++ cap).toArray := by simp
  unfold Oper.wp
  simp only [execOp, ho, resolve, Deferred.ofValue, ha.eval hx, invoke, e1, e2, Sem.run_bind, Sem.run_pure, Result.andThen_ok, callFunc_run, Oper.upon]
  refine (hs.go S w (p.ok hw)).mono ?_
  rintro e w' ⟨v, H1, rfl, h1, h2⟩
  exact hn v _ w' ⟨H1, h1, rfl⟩ h2
theorem hsub_perm {A B : List Ent} (p : A.Perm B) : HSub A B := fun w h => h.perm p
/-- a call through a function value that only looks at what C holds, C standing at the tail -/
theorem opr_callv_tail {f : FuncId} [hc : Cal P f] {x : Operand} {first cap : List Value} {args : List Operand} {ts : Array TypeId} {vs : List Value} {pre C Fr : List Ent} {u : Value} (ho : o.op = .call { callee := .value x, args := args.toArray, argTypes := ts }) (hx : ev F x = some (.func (.func f) first.toArray cap.toArray)) (hv : evl F args = some vs) (hs : Ct P f (first ++ vs ++ cap) C fun v H' => v = u ∧ H' = C) (hH : H = pre ++ (C ++ Fr)) : Opr P n o F H fun v H' => v = u ∧ H' = H := fun Q a w next ha hw hn => by
  have he := evl_eval ha hv
  have e1 : args.toArray.map a.eval = vs.toArray := by simpa using he
  have e2 : first.toArray ++ vs.toArray ++ cap.toArray = (first ++ vs ++ cap).toArray := by simp
  subst hH
  have hp : (pre ++ (C ++ Fr)).Perm (C ++ (pre ++ Fr)) := by
    rw [← List.append_assoc, ← List.append_assoc]
    exact List.Perm.append_right Fr List.perm_append_comm
  unfold Oper.wp
  simp only [execOp, ho, resolve, Deferred.ofValue, ha.eval hx, invoke, e1, e2, Sem.run_bind, Sem.run_pure, Result.andThen_ok, callFunc_run, Oper.upon]
  refine (hs.go (pre ++ Fr) w (hw.perm hp)).mono ?_
  rintro e w' ⟨v, H1, rfl, ⟨h1, rfl⟩, h2⟩
  exact hn v _ w' ⟨h1, rfl⟩ (h2.perm hp.symm)
theorem ct_tail {f : FuncId} {vs : List Value} {H0 C : List Ent} {Rv : Value → List Ent → Prop} (h : Ct P f vs (H0 ++ C) Rv) : Ct P f vs (H0 ++ C) Rv := h
theorem q_makeFunc {fn : Fn} {fi ca : List Operand} {vf vc : List Value} (ho : o.op = .makeFunc fn fi.toArray ca.toArray) (hf : evl F fi = some vf) (hc : evl F ca = some vc) : Qt P n o F H (.func fn vf.toArray vc.toArray) := fun a w ha hw => by
  have h1 := evl_eval ha hf
  have h2 := evl_eval ha hc
  simp [execOp, ho, Instr.makeFunc, h1, h2]
end
theorem box_holds (b : Nat) (cs : List Value) (t : TypeId) (w : World) : (box b cs t).holds w = (w.heap[b]? = some (.cells cs.toArray t (0, 0))) := rfl
theorem own_holds (v : Value) (e sz m : Nat) (xs : List Value) (w : World) : (own v e sz m xs).holds w = w.ownsRow 0 e sz v m xs := rfl
theorem sl_holds (sz : Nat) (v : Value) (rows : List (List Value)) (w : World) : (sl sz v rows).holds w = SliceAt w sz v rows := rfl
theorem old_holds (W w : World) : (old W).holds w = Below W.heap.size W w := rfl
theorem sl_excl (sz : Nat) (v : Value) (rows : List (List Value)) : (sl sz v rows).excl = false := rfl
theorem old_excl (W : World) : (old W).excl = false := rfl
theorem sl_foot (sz : Nat) (v : Value) (rows : List (List Value)) (k : Nat) : (sl sz v rows).foot k = (rows ≠ [] ∧ v.ownBlock = some k) := rfl
theorem own_foot (v : Value) (e sz m : Nat) (xs : List Value) (k : Nat) : (own v e sz m xs).foot k = (v.ownBlock = some k) := rfl
theorem old_foot (W : World) (k : Nat) : (old W).foot k = (k < W.heap.size) := rfl
end Go.Proofs.Ytcbpeampjhegcaa.sl
