/-
  The small separation logic: the kinds of entries, and the laws of the operations. Nothing here speaks of the program.
-/
import Derived.Test.YtcbpeampjhegcaaSl
import Derived.IntWalk
namespace Go.Proofs.Ytcbpeampjhegcaa.sl
open Go.RowKit kit
set_option linter.unusedVariables false

/-! ### kinds of entries -/
theorem heap_lt {w : World} {b : Nat} {o : Obj} (h : w.heap[b]? = some o) : b < w.heap.size := (Array.getElem?_eq_some_iff.1 h).1
/-- a block whose cells are known one by one -/
def box (b : Nat) (cs : List Value) (t : TypeId) : Ent where
  excl := true
  foot k := k = b
  holds w := w.heap[b]? = some (.cells cs.toArray t (0, 0))
  lt h hk := by subst hk; exact heap_lt h
  keep h _ _ _ _ hb := by rw [hb b rfl]; exact h
theorem own_block {w : World} {B e sz n : Nat} {v : Value} {xs : List Value} (h : w.ownsRow B e sz v n xs) {k : Nat} (hk : v.ownBlock = some k) : ∃ cap cur, v = .slice (some ⟨k, 0, none⟩) n cap ∧ B ≤ k ∧ w.heap[k]? = some (.cells cur e (0, 0)) ∧ n ≤ cap ∧ cap ≤ maxLen ∧ cur.size = cap * sz ∧ cur.toList.take (n * sz) = xs := by
  rcases h.2 with ⟨rfl, _⟩ | ⟨g, cap, cur, rfl, r⟩
  · cases hk
  · have e : g = k := Option.some.inj hk
    subst e
    exact ⟨cap, cur, rfl, r⟩
/-- a slice of the call's own, that may be written and appended to -/
def own (v : Value) (e sz n : Nat) (xs : List Value) : Ent where
  excl := true
  foot k := v.ownBlock = some k
  holds w := w.ownsRow 0 e sz v n xs
  lt h hk := by obtain ⟨_, _, _, _, hg, _⟩ := own_block h hk; exact heap_lt hg
  keep {w w'} h _ _ _ _ hb := by
    refine ⟨h.1, ?_⟩
    rcases h.2 with hn | ⟨g, cap, cur, rfl, h0, hg, r⟩
    · exact .inl hn
    · exact .inr ⟨g, cap, cur, rfl, h0, by rw [hb g rfl]; exact hg, r⟩
theorem sliceAt_block {w : World} {sz : Nat} {v : Value} {rows : List (List Value)} (h : SliceAt w sz v rows) (hr : rows ≠ []) : ∃ b off cap, v = .slice (some ⟨b, off, none⟩) rows.length cap ∧ b < w.heap.size := by
  rcases h with ⟨h0, _⟩ | ⟨b, off, cap, hv, _, _, _, hb, _⟩
  · exact absurd h0 hr
  · exact ⟨b, off, cap, hv, hb⟩
/-- a slice that is read -/
def sl (sz : Nat) (v : Value) (rows : List (List Value)) : Ent where
  excl := false
  foot k := rows ≠ [] ∧ v.ownBlock = some k
  holds w := SliceAt w sz v rows
  lt h hk := by
    obtain ⟨b, off, cap, rfl, hb⟩ := sliceAt_block h hk.1
    have e : b = _ := Option.some.inj hk.2
    subst e
    exact hb
  keep {w w'} h _ _ _ hs hb := by
    rcases h with h | ⟨b, off, cap, rfl, h1, h2, h3, h4, h5⟩
    · exact .inl h
    · refine .inr ⟨b, off, cap, rfl, h1, h2, h3, Nat.lt_of_lt_of_le h4 hs, fun i r hi => ⟨(h5 i r hi).1, fun j x hj => ?_⟩⟩
      have hne : rows ≠ [] := by intro e; subst e; simp at h3
      have := (h5 i r hi).2 j x hj
      rw [World.cell?_of_block (w := w) (hb b ⟨hne, rfl⟩)]
      exact this
/-- all that was there at W is as it was -/
def old (W : World) : Ent where
  excl := false
  foot k := k < W.heap.size
  holds w := Below W.heap.size W w
  lt h hk := Nat.lt_of_lt_of_le hk h.size
  keep h h1 h2 h3 h4 hb := h.trans ⟨h1, h2, h3, h4, fun k hk => hb k hk⟩

/-! ### one operation -/
/-- an operation that yields v and leaves the world alone -/
def Qt (P : Program) (n : Nat) (o : Oper) (F : Frm) (H : List Ent) (v : Value) : Prop := ∀ a w, Ok F n a → HeapOk H w → (execOp a.eval o).run P w = .ok (.value v) w
/-- an operation that may change the world -/
def Opr (P : Program) (n : Nat) (o : Oper) (F : Frm) (H : List Ent) (K : Value → List Ent → Prop) : Prop :=
  ∀ (Q : Post) a w (next : Act → World → Prop), Ok F n a → HeapOk H w → (∀ v H' w', K v H' → HeapOk H' w' → next (a.put o.dst v) w') → o.wp P a w next Q
section
variable {P : Program} {Q : Post} {n : Nat} {F : Frm} {H : List Ent} {ops : Array Oper} {o : Oper} {rest : List Oper}
theorem opr_of_qt {v : Value} (h : Qt P n o F H v) : Opr P n o F H fun u H' => u = v ∧ H' = H := fun Q a w next ha hw hn => by
  unfold Oper.wp
  rw [h a w ha hw]
  exact hn v H w ⟨rfl, rfl⟩ hw
/-- the slot in which a guard lies -/
def gslot (ops : Array Oper) (j : Nat) : Option Nat := (ops[j]?).bind (·.dst)
theorem yielded_of {j t : Nat} {b : Bool} {a : Act} (ha : Ok F n a) (hs : gslot ops j = some t) (hv : look F t = some (.bool b)) : yielded ops a.tmps j = some b := by
  have h1 : ops[j]?.bind (·.dst) = some t := hs
  unfold yielded
  rw [h1]
  simp [ha.slot t _ hv]
/-- it is carried out -/
inductive Wtd (ops : Array Oper) (F : Frm) (o : Oper) : Prop
  | none : o.guard = none → Wtd ops F o
  | on {j t b} : o.guard = some (j, b) → gslot ops j = some t → look F t = some (.bool b) → Wtd ops F o
theorem Wtd.wanted {a : Act} (h : Wtd ops F o) (ha : Ok F n a) : Region.wanted o (yielded ops a.tmps) = true := by
  cases h with
  | none h => simp [Region.wanted, h]
  | on h1 h2 h3 => simp [Region.wanted, h1, yielded_of ha h2 h3]
theorem run_opr {K : Value → List Ent → Prop} (hg : Wtd ops F o) (hd : fits n o.dst = true) (h : Opr P n o F H K) (k : ∀ v H', K v H' → Run P ops Q n rest (upd F o.dst v) H') : Run P ops Q n (o :: rest) F H :=
  fun a w ha hw => wpList_step fun K' hK => by
    rw [if_pos (hg.wanted ha)]
    exact h Q a w K' ha hw fun v H' w' hk hw' => hK _ _ (k v H' hk _ _ (ha.put hd) hw')
theorem run_q {v : Value} (hg : Wtd ops F o) (hd : fits n o.dst = true) (h : Qt P n o F H v) (k : Run P ops Q n rest (upd F o.dst v) H) : Run P ops Q n (o :: rest) F H :=
  run_opr hg hd (opr_of_qt h) fun u H' ⟨h1, h2⟩ => by subst h1; subst h2; exact k
theorem run_qs {d : Nat} {op : Op} {ty : TypeId} {ps : String} {af : Array Edge} {g : Option (Nat × Bool)} {v : Value} (hg : Wtd ops F ⟨some d, op, ty, ps, af, g⟩) (hd : Nat.blt d n = true) (h : Qt P n ⟨some d, op, ty, ps, af, g⟩ F H v) (k : Run P ops Q n rest ((d, v) :: F) H) : Run P ops Q n (⟨some d, op, ty, ps, af, g⟩ :: rest) F H := run_q hg hd h k
theorem run_qn {op : Op} {ty : TypeId} {ps : String} {af : Array Edge} {g : Option (Nat × Bool)} {v : Value} (hg : Wtd ops F ⟨none, op, ty, ps, af, g⟩) (h : Qt P n ⟨none, op, ty, ps, af, g⟩ F H v) (k : Run P ops Q n rest F H) : Run P ops Q n (⟨none, op, ty, ps, af, g⟩ :: rest) F H := run_q hg rfl h k
theorem run_os {d : Nat} {op : Op} {ty : TypeId} {ps : String} {af : Array Edge} {g : Option (Nat × Bool)} {K : Value → List Ent → Prop} (hg : Wtd ops F ⟨some d, op, ty, ps, af, g⟩) (hd : Nat.blt d n = true) (h : Opr P n ⟨some d, op, ty, ps, af, g⟩ F H K) (k : ∀ v H', K v H' → Run P ops Q n rest ((d, v) :: F) H') : Run P ops Q n (⟨some d, op, ty, ps, af, g⟩ :: rest) F H := run_opr hg hd h k
theorem run_on {op : Op} {ty : TypeId} {ps : String} {af : Array Edge} {g : Option (Nat × Bool)} {K : Value → List Ent → Prop} (hg : Wtd ops F ⟨none, op, ty, ps, af, g⟩) (h : Opr P n ⟨none, op, ty, ps, af, g⟩ F H K) (k : ∀ v H', K v H' → Run P ops Q n rest F H') : Run P ops Q n (⟨none, op, ty, ps, af, g⟩ :: rest) F H := run_opr hg rfl h k
theorem run_off {j t : Nat} {b : Bool} (hg : o.guard = some (j, b)) (hs : gslot ops j = some t) (hv : look F t = some (.bool (!b))) (hd : fits n o.dst = true) (k : Run P ops Q n rest (upd F o.dst undef) H) : Run P ops Q n (o :: rest) F H :=
  fun a w ha hw => wpList_step fun K' hK => by
    have : ¬ Region.wanted o (yielded ops a.tmps) = true := by
      simp only [Region.wanted, hg, yielded_of ha hs hv]
      cases b <;> simp
    rw [if_neg this]
    exact hK _ _ (k _ _ (ha.put hd) hw)

theorem run_offs {d : Nat} {op : Op} {ty : TypeId} {ps : String} {af : Array Edge} {j t : Nat} {b : Bool} (hs : gslot ops j = some t) (hv : look F t = some (.bool (!b))) (hd : Nat.blt d n = true) (k : Run P ops Q n rest ((d, undef) :: F) H) : Run P ops Q n (⟨some d, op, ty, ps, af, some (j, b)⟩ :: rest) F H := run_off rfl hs hv hd k
theorem run_offn {op : Op} {ty : TypeId} {ps : String} {af : Array Edge} {j t : Nat} {b : Bool} (hs : gslot ops j = some t) (hv : look F t = some (.bool (!b))) (k : Run P ops Q n rest F H) : Run P ops Q n (⟨none, op, ty, ps, af, some (j, b)⟩ :: rest) F H := run_off rfl hs hv rfl k
/-! ### operations that leave the world alone -/
variable {x y z : Operand} {v u : Value}
theorem q_move (ho : o.op = .move x) (hx : ev F x = some v) : Qt P n o F H v := fun a w ha _ => by simp [execOp, ho, ha.eval hx]
theorem q_assign (ho : o.op = .assign x) (hx : ev F x = some v) : Qt P n o F H v := fun a w ha _ => by simp [execOp, ho, ha.eval hx]
theorem q_pick_t (ho : o.op = .pick x y z) (hx : ev F x = some (.bool true)) (hy : ev F y = some v) : Qt P n o F H v := fun a w ha _ => by simp [execOp, ho, ha.eval hx, ha.eval hy, asBool]
theorem q_pick_f (ho : o.op = .pick x y z) (hx : ev F x = some (.bool false)) (hz : ev F z = some v) : Qt P n o F H v := fun a w ha _ => by simp [execOp, ho, ha.eval hx, ha.eval hz, asBool]
theorem q_not {b : Bool} {T : TypeId} (ho : o.op = .unOp .not T x) (hx : ev F x = some (.bool b)) : Qt P n o F H (.bool (!b)) := fun a w ha _ => by simp [execOp, ho, ha.eval hx, Op.unary]
theorem q_not_t {T : TypeId} (ho : o.op = .unOp .not T x) (hx : ev F x = some (.bool true)) : Qt P n o F H (.bool false) := q_not ho hx
theorem q_not_f {T : TypeId} (ho : o.op = .unOp .not T x) (hx : ev F x = some (.bool false)) : Qt P n o F H (.bool true) := q_not ho hx
theorem q_extract {i : Nat} {vs : Array Value} (ho : o.op = .extract x i) (hx : ev F x = some (.tuple vs)) (hi : vs[i]? = some v) : Qt P n o F H v := fun a w ha _ => by simp [execOp, ho, ha.eval hx, Instr.extract, hi]
section ints
variable {k : IntKind} {i j : Int} {T T' : TypeId}
theorem q_arith {op : BinOp} {r : Int} (ho : o.op = .binOp op T x y T') (hx : ev F x = some (.int k i)) (hy : ev F y = some (.int k j)) (hop : op = .add ∧ r = i + j ∨ op = .sub ∧ r = i - j ∨ op = .mul ∧ r = i * j) (hw : k.wrap r = r) : Qt P n o F H (.int k r) := fun a w ha _ => by
  rcases hop with ⟨rfl, rfl⟩ | ⟨rfl, rfl⟩ | ⟨rfl, rfl⟩ <;> simp [execOp, ho, ha.eval hx, ha.eval hy, eqGuard, binOp, Op.intArith, hw]
theorem q_add (ho : o.op = .binOp .add T x y T') (hx : ev F x = some (.int .i64 i)) (hy : ev F y = some (.int .i64 j)) (h : -9223372036854775808 ≤ i + j ∧ i + j ≤ 9223372036854775807) : Qt P n o F H (.int .i64 (i + j)) := q_arith ho hx hy (.inl ⟨rfl, rfl⟩) (IntWalk.i64_in _ h)
theorem q_sub (ho : o.op = .binOp .sub T x y T') (hx : ev F x = some (.int .i64 i)) (hy : ev F y = some (.int .i64 j)) (h : -9223372036854775808 ≤ i - j ∧ i - j ≤ 9223372036854775807) : Qt P n o F H (.int .i64 (i - j)) := q_arith ho hx hy (.inr (.inl ⟨rfl, rfl⟩)) (IntWalk.i64_in _ h)
theorem q_mul (ho : o.op = .binOp .mul T x y T') (hx : ev F x = some (.int .i64 i)) (hy : ev F y = some (.int .i64 j)) (h : -9223372036854775808 ≤ i * j ∧ i * j ≤ 9223372036854775807) : Qt P n o F H (.int .i64 (i * j)) := q_arith ho hx hy (.inr (.inr ⟨rfl, rfl⟩)) (IntWalk.i64_in _ h)
theorem q_add_w (ho : o.op = .binOp .add T x y T') (hx : ev F x = some (.int k i)) (hy : ev F y = some (.int k j)) : Qt P n o F H (.int k (k.wrap (i + j))) := fun a w ha _ => by simp [execOp, ho, ha.eval hx, ha.eval hy, eqGuard, binOp, Op.intArith]
theorem q_sub_w (ho : o.op = .binOp .sub T x y T') (hx : ev F x = some (.int k i)) (hy : ev F y = some (.int k j)) : Qt P n o F H (.int k (k.wrap (i - j))) := fun a w ha _ => by simp [execOp, ho, ha.eval hx, ha.eval hy, eqGuard, binOp, Op.intArith]
theorem q_mul_w (ho : o.op = .binOp .mul T x y T') (hx : ev F x = some (.int k i)) (hy : ev F y = some (.int k j)) : Qt P n o F H (.int k (k.wrap (i * j))) := fun a w ha _ => by simp [execOp, ho, ha.eval hx, ha.eval hy, eqGuard, binOp, Op.intArith]
/-- a comparison, as a Bool -/
def cmpB : BinOp → Int → Int → Bool
  | .eql, i, j => i == j
  | .neq, i, j => i != j
  | .lss, i, j => decide (i < j)
  | .leq, i, j => decide (i ≤ j)
  | .gtr, i, j => decide (i > j)
  | .geq, i, j => decide (i ≥ j)
  | _, _, _ => false
def isCmp : BinOp → Bool
  | .eql | .neq | .lss | .leq | .gtr | .geq => true
  | _ => false
theorem q_cmp {op : BinOp} (ho : o.op = .binOp op T x y T') (hc : isCmp op = true) (hx : ev F x = some (.int k i)) (hy : ev F y = some (.int k j)) : Qt P n o F H (.bool (cmpB op i j)) := fun a w ha _ => by
  cases op <;> (first | (cases hc; done) | simp [execOp, ho, ha.eval hx, ha.eval hy, eqGuard, binOp, Op.intCmp, cmpB])
theorem q_cmp_b {op : BinOp} {b : Bool} (ho : o.op = .binOp op T x y T') (hc : isCmp op = true) (hx : ev F x = some (.int k i)) (hy : ev F y = some (.int k j)) (h : cmpB op i j = b) : Qt P n o F H (.bool b) := h ▸ q_cmp ho hc hx hy
theorem eql_t (h : i = j) : cmpB .eql i j = true := by simp [cmpB, h]
theorem eql_f (h : i ≠ j) : cmpB .eql i j = false := by simp [cmpB, h]
theorem neq_t (h : i ≠ j) : cmpB .neq i j = true := by simp [cmpB, h]
theorem neq_f (h : i = j) : cmpB .neq i j = false := by simp [cmpB, h]
theorem lss_t (h : i < j) : cmpB .lss i j = true := by simp [cmpB, h]
theorem lss_f (h : j ≤ i) : cmpB .lss i j = false := by simp [cmpB, h]
theorem leq_t (h : i ≤ j) : cmpB .leq i j = true := by simp [cmpB, h]
theorem leq_f (h : j < i) : cmpB .leq i j = false := by simp [cmpB]; omega
theorem gtr_t (h : j < i) : cmpB .gtr i j = true := by simp [cmpB, h]
theorem gtr_f (h : i ≤ j) : cmpB .gtr i j = false := by simp [cmpB]; omega
theorem geq_t (h : j ≤ i) : cmpB .geq i j = true := by simp [cmpB, h]
theorem geq_f (h : i < j) : cmpB .geq i j = false := by simp [cmpB]; omega
theorem eql_or (i j : Int) : (i = j ∧ cmpB .eql i j = true) ∨ (i ≠ j ∧ cmpB .eql i j = false) := by by_cases h : i = j; exact .inl ⟨h, eql_t h⟩; exact .inr ⟨h, eql_f h⟩
theorem neq_or (i j : Int) : (i ≠ j ∧ cmpB .neq i j = true) ∨ (i = j ∧ cmpB .neq i j = false) := by by_cases h : i = j; exact .inr ⟨h, neq_f h⟩; exact .inl ⟨h, neq_t h⟩
theorem lss_or (i j : Int) : (i < j ∧ cmpB .lss i j = true) ∨ (j ≤ i ∧ cmpB .lss i j = false) := by by_cases h : i < j; exact .inl ⟨h, lss_t h⟩; exact .inr ⟨by omega, lss_f (by omega)⟩
theorem leq_or (i j : Int) : (i ≤ j ∧ cmpB .leq i j = true) ∨ (j < i ∧ cmpB .leq i j = false) := by by_cases h : i ≤ j; exact .inl ⟨h, leq_t h⟩; exact .inr ⟨by omega, leq_f (by omega)⟩
theorem gtr_or (i j : Int) : (j < i ∧ cmpB .gtr i j = true) ∨ (i ≤ j ∧ cmpB .gtr i j = false) := by by_cases h : j < i; exact .inl ⟨h, gtr_t h⟩; exact .inr ⟨by omega, gtr_f (by omega)⟩
theorem geq_or (i j : Int) : (j ≤ i ∧ cmpB .geq i j = true) ∨ (i < j ∧ cmpB .geq i j = false) := by by_cases h : j ≤ i; exact .inl ⟨h, geq_t h⟩; exact .inr ⟨by omega, geq_f (by omega)⟩
/-- a comparison parts the walk -/
theorem run_cmp2 {op : BinOp} (hg : Wtd ops F o) (hd : fits n o.dst = true) (ho : o.op = .binOp op T x y T') (hc : isCmp op = true) (hx : ev F x = some (.int k i)) (hy : ev F y = some (.int k j))
    (h1 : cmpB op i j = true → Run P ops Q n rest (upd F o.dst (.bool true)) H) (h2 : cmpB op i j = false → Run P ops Q n rest (upd F o.dst (.bool false)) H) : Run P ops Q n (o :: rest) F H := by
  cases hb : cmpB op i j with
  | true => exact run_q hg hd (q_cmp_b ho hc hx hy hb) (h1 hb)
  | false => exact run_q hg hd (q_cmp_b ho hc hx hy hb) (h2 hb)
theorem of_eql (h : cmpB .eql i j = true) : i = j := by simpa [cmpB] using h
theorem of_eql' (h : cmpB .eql i j = false) : i ≠ j := by simpa [cmpB] using h
theorem of_neq (h : cmpB .neq i j = true) : i ≠ j := by simpa [cmpB] using h
theorem of_neq' (h : cmpB .neq i j = false) : i = j := by simpa [cmpB] using h
theorem of_lss (h : cmpB .lss i j = true) : i < j := by simpa [cmpB] using h
theorem of_lss' (h : cmpB .lss i j = false) : j ≤ i := by simpa [cmpB] using h
theorem of_leq (h : cmpB .leq i j = true) : i ≤ j := by simpa [cmpB] using h
theorem of_leq' (h : cmpB .leq i j = false) : j < i := by simpa [cmpB] using h
theorem of_gtr (h : cmpB .gtr i j = true) : j < i := by simpa [cmpB] using h
theorem of_gtr' (h : cmpB .gtr i j = false) : i ≤ j := by simpa [cmpB] using h
theorem of_geq (h : cmpB .geq i j = true) : j ≤ i := by simpa [cmpB] using h
theorem of_geq' (h : cmpB .geq i j = false) : i < j := by simpa [cmpB] using h
end ints
end
end Go.Proofs.Ytcbpeampjhegcaa.sl
