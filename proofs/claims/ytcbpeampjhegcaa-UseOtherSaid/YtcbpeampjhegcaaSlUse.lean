/-
  The small separation logic: the laws in the forms that the walks use. Nothing here speaks of the program.
-/
import Derived.Test.YtcbpeampjhegcaaSlDrn
namespace Go.Proofs.Ytcbpeampjhegcaa.sl
open Go.RowKit kit
set_option linter.unusedVariables false
theorem str_inj {s t : ByteArray} (h : s.toList = t.toList) : s = t := by
  rw [Lib.toList_data, Lib.toList_data] at h
  exact ByteArray.ext (Array.toList_inj.mp h)
section
variable {P : Program} {n : Nat} {F : Frm} {H R : List Ent} {o : Oper} {x y z : Operand} {v u z' : Value} {T : TypeId}
theorem q_field_elt_s {α : Type} {f : α → List Value} {xs : List α} {q : α} {i sz j g off fs : Nat} [hf : Fld P T g off fs] (ho : o.op = .fieldAddr T x g) (hx : ev F x = some (eptr v i sz j)) {k : Nat} (hk : j + off = k) (p : Pick (sl sz v (xs.map f)) H R) (hr : xs[i]? = some q) : Qt P n o F H (eptr v i sz k) := fun a w ha hw => by
  have hb : SliceAt w sz v (xs.map f) := hw.1 _ p.mem
  obtain ⟨ad, m, c, rfl, hsp, _⟩ := sl_elem hb (i := i) (r := f q) (by rw [List.getElem?_map, hr]; rfl)
  exact q_field_elt ho hx hk (H := H) (fun w _ a' m' c' e => by simp only [Value.slice.injEq, Option.some.injEq] at e; rw [← e.1]; exact hsp) rfl (fun _ _ h => by cases h) a w ha hw
theorem q_field_elt_o {i sz j g off fs m e : Nat} {xs : List Value} [hf : Fld P T g off fs] (ho : o.op = .fieldAddr T x g) (hx : ev F x = some (eptr v i sz j)) {k : Nat} (hk : j + off = k) (p : Pick (own v e sz m xs) H R) (hi : i < m) : Qt P n o F H (eptr v i sz k) := fun a w ha hw => by
  have hb : w.ownsRow 0 e sz v m xs := hw.1 _ p.mem
  rcases hb.2 with ⟨_, h0⟩ | ⟨g', cap, cur, rfl, _⟩
  · omega
  · exact q_field_elt ho hx hk (H := H) (fun w _ a' m' c' e => by simp only [Value.slice.injEq, Option.some.injEq] at e; rw [← e.1]) rfl (fun _ _ h => by cases h) a w ha hw
theorem q_nilCheck_b {b i : Nat} (ho : o.op = .nilCheck x) (hx : ev F x = some (bptr b i)) : Qt P n o F H (bptr b i) := q_nilCheck ho hx
theorem resV_box {b t sz by' : Nat} {cs : List Value} {ty t' : TypeId} [ht : Ty P ty true sz by' z'] (hx : look F t = some (bptr b 0)) (p : Pick (box b cs t') H R) (hl : cs.length = sz) : ResV P F H (.cell t ty) (.agg cs.toArray) :=
  .read (a := ⟨b, 0, none⟩) hx fun w hw => loadVar_run ht w _ cs hl (fun j u hj => by rw [addr_add, Nat.zero_add, box_cells (hw.1 _ p.mem)]; exact hj) (valOf_agg cs)
theorem resV_cell {b t by' : Nat} {c : Value} {ty t' : TypeId} [ht : Ty P ty false 1 by' z'] (hx : look F t = some (bptr b 0)) (p : Pick (box b [c] t') H R) : ResV P F H (.cell t ty) c :=
  .read (a := ⟨b, 0, none⟩) hx fun w hw => loadVar_run ht w _ [c] rfl (fun j u hj => by rw [addr_add, Nat.zero_add, box_cells (hw.1 _ p.mem)]; exact hj) (valOf_one c)
/-- a comparison parts the walk: the facts as they are read -/
theorem run_lss {ops : Array Oper} {Q : Post} {rest : List Oper} {k : IntKind} {i j : Int} {T T' : TypeId} (hg : Wtd ops F o) (hd : fits n o.dst = true) (ho : o.op = .binOp .lss T x y T') (hx : ev F x = some (.int k i)) (hy : ev F y = some (.int k j))
    (h1 : i < j → Run P ops Q n rest (upd F o.dst (.bool true)) H) (h2 : j ≤ i → Run P ops Q n rest (upd F o.dst (.bool false)) H) : Run P ops Q n (o :: rest) F H :=
  run_cmp2 hg hd ho rfl hx hy (fun h => h1 (of_lss h)) fun h => h2 (of_lss' h)
theorem run_leq {ops : Array Oper} {Q : Post} {rest : List Oper} {k : IntKind} {i j : Int} {T T' : TypeId} (hg : Wtd ops F o) (hd : fits n o.dst = true) (ho : o.op = .binOp .leq T x y T') (hx : ev F x = some (.int k i)) (hy : ev F y = some (.int k j))
    (h1 : i ≤ j → Run P ops Q n rest (upd F o.dst (.bool true)) H) (h2 : j < i → Run P ops Q n rest (upd F o.dst (.bool false)) H) : Run P ops Q n (o :: rest) F H :=
  run_cmp2 hg hd ho rfl hx hy (fun h => h1 (of_leq h)) fun h => h2 (of_leq' h)
theorem run_gtr {ops : Array Oper} {Q : Post} {rest : List Oper} {k : IntKind} {i j : Int} {T T' : TypeId} (hg : Wtd ops F o) (hd : fits n o.dst = true) (ho : o.op = .binOp .gtr T x y T') (hx : ev F x = some (.int k i)) (hy : ev F y = some (.int k j))
    (h1 : j < i → Run P ops Q n rest (upd F o.dst (.bool true)) H) (h2 : i ≤ j → Run P ops Q n rest (upd F o.dst (.bool false)) H) : Run P ops Q n (o :: rest) F H :=
  run_cmp2 hg hd ho rfl hx hy (fun h => h1 (of_gtr h)) fun h => h2 (of_gtr' h)
theorem run_geq {ops : Array Oper} {Q : Post} {rest : List Oper} {k : IntKind} {i j : Int} {T T' : TypeId} (hg : Wtd ops F o) (hd : fits n o.dst = true) (ho : o.op = .binOp .geq T x y T') (hx : ev F x = some (.int k i)) (hy : ev F y = some (.int k j))
    (h1 : j ≤ i → Run P ops Q n rest (upd F o.dst (.bool true)) H) (h2 : i < j → Run P ops Q n rest (upd F o.dst (.bool false)) H) : Run P ops Q n (o :: rest) F H :=
  run_cmp2 hg hd ho rfl hx hy (fun h => h1 (of_geq h)) fun h => h2 (of_geq' h)
theorem run_eql {ops : Array Oper} {Q : Post} {rest : List Oper} {k : IntKind} {i j : Int} {T T' : TypeId} (hg : Wtd ops F o) (hd : fits n o.dst = true) (ho : o.op = .binOp .eql T x y T') (hx : ev F x = some (.int k i)) (hy : ev F y = some (.int k j))
    (h1 : i = j → Run P ops Q n rest (upd F o.dst (.bool true)) H) (h2 : i ≠ j → Run P ops Q n rest (upd F o.dst (.bool false)) H) : Run P ops Q n (o :: rest) F H :=
  run_cmp2 hg hd ho rfl hx hy (fun h => h1 (of_eql h)) fun h => h2 (of_eql' h)
theorem run_neq {ops : Array Oper} {Q : Post} {rest : List Oper} {k : IntKind} {i j : Int} {T T' : TypeId} (hg : Wtd ops F o) (hd : fits n o.dst = true) (ho : o.op = .binOp .neq T x y T') (hx : ev F x = some (.int k i)) (hy : ev F y = some (.int k j))
    (h1 : i ≠ j → Run P ops Q n rest (upd F o.dst (.bool true)) H) (h2 : i = j → Run P ops Q n rest (upd F o.dst (.bool false)) H) : Run P ops Q n (o :: rest) F H :=
  run_cmp2 hg hd ho rfl hx hy (fun h => h1 (of_neq h)) fun h => h2 (of_neq' h)
theorem run_seq {ops : Array Oper} {Q : Post} {rest : List Oper} {s t : ByteArray} {T T' : TypeId} (hg : Wtd ops F o) (hd : fits n o.dst = true) (ho : o.op = .binOp .eql T x y T') (hx : ev F x = some (.string s)) (hy : ev F y = some (.string t))
    (h1 : s = t → Run P ops Q n rest (upd F o.dst (.bool true)) H) (h2 : s ≠ t → Run P ops Q n rest (upd F o.dst (.bool false)) H) : Run P ops Q n (o :: rest) F H := by
  by_cases h : s = t
  · exact run_q hg hd (by have := q_str_eql (P := P) (n := n) (H := H) ho hx hy; rw [h] at this; simpa using this) (h1 h)
  · refine run_q hg hd ?_ (h2 h)
    have := q_str_eql (P := P) (n := n) (H := H) ho hx hy
    have e : (s.toList == t.toList) = false := by
      simp only [beq_eq_false_iff_ne, ne_eq]
      intro e; exact h (str_inj e)
    rw [e] at this
    exact this
theorem run_sneq {ops : Array Oper} {Q : Post} {rest : List Oper} {s t : ByteArray} {T T' : TypeId} (hg : Wtd ops F o) (hd : fits n o.dst = true) (ho : o.op = .binOp .neq T x y T') (hx : ev F x = some (.string s)) (hy : ev F y = some (.string t))
    (h1 : s ≠ t → Run P ops Q n rest (upd F o.dst (.bool true)) H) (h2 : s = t → Run P ops Q n rest (upd F o.dst (.bool false)) H) : Run P ops Q n (o :: rest) F H := by
  by_cases h : s = t
  · exact run_q hg hd (by have := q_str_neq (P := P) (n := n) (H := H) ho hx hy; rw [h] at this; simpa using this) (h2 h)
  · refine run_q hg hd ?_ (h1 h)
    have := q_str_neq (P := P) (n := n) (H := H) ho hx hy
    have e : (s.toList == t.toList) = false := by
      simp only [beq_eq_false_iff_ne, ne_eq]
      intro e; exact h (str_inj e)
    rw [e] at this
    exact this
end
theorem get_or {α : Type} (xs : List α) (k : Nat) : (∃ x, xs[k]? = some x ∧ k < xs.length) ∨ xs.length ≤ k := by
  rcases Nat.lt_or_ge k xs.length with h | h
  · exact .inl ⟨_, List.getElem?_eq_getElem h, h⟩
  · exact .inr h
theorem any_take {α : Type} {p : α → Bool} {xs : List α} {k : Nat} {x : α} (hx : xs[k]? = some x) (h : (xs.take k).any p = false) (hp : p x = false) : (xs.take (k + 1)).any p = false := by
  rw [take_one hx, List.any_append, h]; simp [hp]
theorem any_all {α : Type} {p : α → Bool} {xs : List α} {k : Nat} (hk : xs.length ≤ k) (h : (xs.take k).any p = false) : xs.any p = false := by
  rw [List.take_of_length_le hk] at h; exact h
theorem any_of {α : Type} {p : α → Bool} {xs : List α} {k : Nat} {x : α} (hx : xs[k]? = some x) (hp : p x = true) : xs.any p = true := by
  rw [List.any_eq_true]; exact ⟨x, List.mem_of_getElem? hx, hp⟩
/-- the cells of a slice of strings, of ints, of bools -/
def fS (s : ByteArray) : List Value := [.string s]
def fI (i : Int) : List Value := [.int .i64 i]
def fB (b : Bool) : List Value := [.bool b]
def fP (p : Int × ByteArray) : List Value := [.int .i64 p.1, .string p.2]
theorem one_fS (s : ByteArray) : ∀ u ∈ fS s, u.oneCell' = true := by simp [fS, Value.oneCell']
theorem one_fI (s : Int) : ∀ u ∈ fI s, u.oneCell' = true := by simp [fI, Value.oneCell']
theorem one_fB (s : Bool) : ∀ u ∈ fB s, u.oneCell' = true := by simp [fB, Value.oneCell']
theorem one_fP (p : Int × ByteArray) : ∀ u ∈ fP p, u.oneCell' = true := by simp [fP, Value.oneCell']
end Go.Proofs.Ytcbpeampjhegcaa.sl
