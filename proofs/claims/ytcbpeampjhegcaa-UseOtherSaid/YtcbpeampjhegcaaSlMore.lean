/-
  The small separation logic: bridges to the elder contracts, 'make', comparisons of structs. Nothing here speaks of the program.
-/
import Derived.Test.YtcbpeampjhegcaaSlUse
import Derived.Laws.StructEq
import Derived.OwnWalk
namespace Go.Proofs.Ytcbpeampjhegcaa.sl
open Go.RowKit kit
set_option linter.unusedVariables false

/-- what an elder contract says -/
theorem ct_of_calls {P : Program} {f : FuncId} {args : List Value} {H : List Ent} {u : Value} (h : ∀ w, HeapOk H w → Calls P f args.toArray w fun e w' => e = .returned u ∧ Below w.heap.size w w') : Ct P f args H fun v H' => v = u ∧ H' = [] :=
  ⟨fun Fr w hw => (h w (hw.sub (List.sublist_append_left _ _))).mono fun e w' ⟨he, hb⟩ => ⟨u, [], he, ⟨rfl, rfl⟩, (hw.sub (List.sublist_append_right _ _)).moved ⟨hb.os, hb.tape, hb.output, hb.size, fun b hb' _ => hb.block b hb'⟩⟩⟩
theorem shared_ok {H : List Ent} {W : World} (h : ∀ e ∈ H, e.excl = false ∧ e.holds W) : HeapOk H W :=
  ⟨fun e he => (h e he).2, by
    induction H with
    | nil => exact List.Pairwise.nil
    | cons e H ih =>
      refine List.pairwise_cons.2 ⟨fun f hf hx => ?_, ih fun f hf => h f (List.mem_cons_of_mem _ hf)⟩
      rw [(h e List.mem_cons_self).1, (h f (List.mem_cons_of_mem _ hf)).1] at hx
      rcases hx with hx | hx <;> cases hx⟩
theorem old_self (W : World) : (old W).holds W := Below.refl W.heap.size W
/-- a law, out of its contract -/
theorem law_of_ct {P : Program} {f : FuncId} {args : List Value} {H : List Ent} {u : Value} {W : World} (hH : ∀ e ∈ H, e.excl = false ∧ e.holds W) (h : Ct P f args H fun v H' => v = u ∧ H' = []) : Calls P f args.toArray W fun e w' => e = .returned u ∧ Below W.heap.size W w' :=
  (h.go [old W] W (shared_ok fun e he => by
    rcases List.mem_append.1 he with he | he
    · exact hH e he
    · rw [List.mem_singleton.1 he]; exact ⟨rfl, old_self W⟩)).mono fun e w' ⟨v, H', he, ⟨hv, hH'⟩, hk⟩ => by
    subst hv
    subst hH'
    exact ⟨he, hk.1 (old W) (by simp)⟩
theorem ct_mono_heap {P : Program} {f : FuncId} {args : List Value} {H H' : List Ent} {R : Value → List Ent → Prop} (hs : ∀ Fr, HSub (H' ++ Fr) (H ++ Fr)) (h : Ct P f args H R) : Ct P f args H' R := ⟨fun Fr w hw => h.go Fr w (hs Fr w hw)⟩

/-! ### slices whose head is opaque -/
theorem slice_shape {w : World} {sz : Nat} {v : Value} {rows : List (List Value)} (h : SliceAt w sz v rows) : ∃ q c, v = .slice q rows.length c := by
  rcases h with ⟨h0, h1⟩ | ⟨b, off, cap, rfl, _⟩
  · subst h0
    rcases h1 with rfl | ⟨q, c, rfl⟩
    · exact ⟨_, _, rfl⟩
    · exact ⟨_, _, rfl⟩
  · exact ⟨_, _, rfl⟩

theorem tail_here (T : List Ent) : T = [] ++ T := rfl
theorem tail_cons {x : Ent} {H pre T : List Ent} (h : H = pre ++ T) : x :: H = (x :: pre) ++ T := by rw [h]; rfl

/-! ### make -/
section
variable {P : Program} {n : Nat} {F : Frm} {H R : List Ent} {o : Oper} {x y z : Operand} {v u z' : Value} {T : TypeId}
theorem run_make_row {t e sz by' : Nat} {agg : Bool} (ht : Sli P t e) (hs : Ty P e agg sz by' z') (kl kc : IntKind) (c : Nat) (hb : by' * c ≤ 281474976710656) (h63 : c ≤ maxLen) (w : World) : (Instr.makeSlice t (.int kl (c : Int)) (.int kc (c : Int))).run P w = .ok (.slice (some ⟨w.heap.size, 0, none⟩) c c) (w.alloc (.cells (zrow z' c).toArray e)) := by
  obtain ⟨i, d, hi, _, _, h1, h2, h3⟩ := hs.info
  have h63' : (c : Int) ≤ 9223372036854775807 := by
    have h := h63
    simp [maxLen] at h
    omega
  have hb' : (i.bytes : Int) * (c : Int) ≤ 281474976710656 := by
    rw [h2]
    have h : ((by' * c : Nat) : Int) ≤ 281474976710656 := by omega
    rwa [Int.natCast_mul] at h
  have hr := run_make (P := P) w t e i z' ht.h hi h3 kl kc c c (by omega) (Int.le_refl _) hb' h63'
  simp only [Int.toNat_natCast] at hr
  rw [hr, h1, ← zrow_eq hs.hz c]
  rfl
theorem flat_replicate {α : Type} {f : α → List Value} {z0 : α} (hz : z'.cells = (f z0).toArray) (c : Nat) : zrow z' c = flat f (List.replicate c z0) := by simp [zrow, flat, hz]
/-- 'make([]T, n)' -/
theorem opr_make {t e sz by' : Nat} {agg : Bool} [ht : Sli P t e] [hs : Ty P e agg sz by' z'] {α : Type} (f : α → List Value) (z0 : α) {kl kc : IntKind} {i j : Int} {c : Nat} (ho : o.op = .makeSlice t x y) (hx : ev F x = some (.int kl i)) (hy : ev F y = some (.int kc j)) (hi : i = (c : Int)) (hj : j = (c : Int)) (hz : z'.cells = (f z0).toArray) (hf : (f z0).length = sz) (hb : by' * c ≤ 281474976710656) (h63 : c ≤ maxLen) :
    Opr P n o F H fun u H' => ∃ q, u = .slice q c c ∧ H' = own (.slice q c c) e sz c (flat f (List.replicate c z0)) :: H := fun Q a w next ha hw hn => by
  subst hi
  subst hj
  unfold Oper.wp
  simp only [execOp, ho, ha.eval hx, ha.eval hy, Sem.run_bind, run_make_row ht hs kl kc c hb h63 w, Result.andThen_ok, Sem.run_pure, Oper.upon]
  have hl : (zrow z' c).length = c * sz := by
    rw [flat_replicate hz]
    have : ∀ c, (flat f (List.replicate c z0)).length = c * sz := by
      intro c
      simp [flat, List.length_flatten, hf]
    exact this c
  refine hn _ _ _ ⟨some ⟨w.heap.size, 0, none⟩, rfl, rfl⟩ (HeapOk.new hw (moved_alloc w (.cells (zrow z' c).toArray e)) ?_ fun b hb => ?_)
  · rw [← flat_replicate hz]
    exact ⟨hl, .inr ⟨w.heap.size, c, (zrow z' c).toArray, rfl, Nat.zero_le _, heap_alloc_new _ _, Nat.le_refl _, h63, by simpa using hl, by simp [← hl]⟩⟩
  · have : w.heap.size = b := Option.some.inj hb
    omega
end

/-! ### structs compared -/
/-- of each field of a struct: its place, and what it is (0 a number, 1 a string, 2 a bool) -/
def planOf (P : Program) (t : TypeId) : Option (List (Nat × Nat)) :=
  match P.underlying t with
  | some (.struct fs) => if P.stoodInHeld t || P.eqGuardType P.depth t then none else fs.toList.mapM fun f => if f.name = "_" then none else
      match P.info? f.type, P.underlying f.type with
      | some _, some (.int _) => some (f.offset, 0)
      | some _, some .string => some (f.offset, 1)
      | some _, some .bool => some (f.offset, 2)
      | _, _ => none
  | _ => none
class Pln (P : Program) (t : TypeId) (pl : outParam (List (Nat × Nat))) : Prop where
  h : planOf P t = some pl
def eqCell : Nat → Value → Value → Option Bool
  | 0, .int k a, .int k' b => if k = k' then some (a == b) else none
  | 1, .string a, .string b => some (a.toList == b.toList)
  | 2, .bool a, .bool b => some (a == b)
  | _, _, _ => none
def eqPlan : List (Nat × Nat) → List Value → List Value → Option Bool
  | [], _, _ => some true
  | (off, k) :: l, xs, ys => match xs[off]?, ys[off]? with
    | some a, some b => match eqCell k a b with
      | some true => eqPlan l xs ys
      | some false => some false
      | none => none
    | _, _ => none
theorem part_run {P : Program} {t : TypeId} {d : TypeDesc} (hd : P.underlying t = some d) (ha : isAggD d = false) {cs : List Value} {off : Nat} {v : Value} (hv : cs[off]? = some v) (w : World) : (part t cs.toArray off).run P w = .ok v w := by
  have hg : (isAgg t).run P w = .ok false w := by
    simp only [isAgg, Sem.run_bind, run_underlying hd, Result.andThen_ok]
    cases d <;> first | rfl | cases ha
  simp [part, Sem.run_bind, hg, hv]
theorem eqFields_run {P : Program} (d : Nat) {fs : List Field} {pl : List (Nat × Nat)} {xs ys : List Value} {b : Bool} (w : World)
    (hp : (fs.mapM fun f => if f.name = "_" then none else
      match P.info? f.type, P.underlying f.type with
      | some _, some (.int _) => some (f.offset, 0)
      | some _, some .string => some (f.offset, 1)
      | some _, some .bool => some (f.offset, 2)
      | _, _ => none) = some pl) (hb : eqPlan pl xs ys = some b) : (Op.eqFields (d + 1) xs.toArray ys.toArray fs).run P w = .ok b w := by
  induction fs generalizing pl with
  | nil =>
    simp at hp
    subst hp
    simp only [eqPlan, Option.some.injEq] at hb
    subst hb
    simp [Op.eqFields]
  | cons f fs ih =>
    rw [List.mapM_cons] at hp
    simp only [Option.bind_eq_bind, Option.bind_eq_some_iff, Option.pure_def, Option.some.injEq] at hp
    obtain ⟨p, hp1, pl', hp2, rfl⟩ := hp
    split at hp1
    · cases hp1
    · rename_i hn
      obtain ⟨off, k⟩ := p
      simp only [eqPlan] at hb
      split at hb
      · rename_i a b' ha hb'
        simp only [Op.eqFields, ne_eq, hn, not_false_eq_true, if_true, Sem.run_bind]
        have key : ∀ r, eqCell k a b' = some r → f.offset = off ∧ (part f.type xs.toArray f.offset).run P w = .ok a w ∧ (part f.type ys.toArray f.offset).run P w = .ok b' w ∧ (Op.equalIn (d + 1) f.type a b').run P w = .ok r w := by
          intro r hr
          split at hp1
          · rename_i k' hi hu
            simp only [Option.some.injEq, Prod.mk.injEq] at hp1
            obtain ⟨h1, h2⟩ := hp1
            subst h1
            subst h2
            refine ⟨rfl, part_run hu rfl ha w, part_run hu rfl hb' w, ?_⟩
            cases a <;> simp only [eqCell] at hr <;> try cases hr
            cases b' <;> simp only at hr <;> try cases hr
            split at hr
            · rename_i e
              subst e
              simp only [Option.some.injEq] at hr
              subst hr
              exact run_equalIn_int w d f.type _ k' _ _ hu
            · cases hr
          · rename_i hi hu
            simp only [Option.some.injEq, Prod.mk.injEq] at hp1
            obtain ⟨h1, h2⟩ := hp1
            subst h1
            subst h2
            refine ⟨rfl, part_run hu rfl ha w, part_run hu rfl hb' w, ?_⟩
            cases a <;> simp only [eqCell] at hr <;> try cases hr
            cases b' <;> simp only at hr <;> try cases hr
            exact run_equalIn_string w d f.type _ _ hu
          · rename_i hi hu
            simp only [Option.some.injEq, Prod.mk.injEq] at hp1
            obtain ⟨h1, h2⟩ := hp1
            subst h1
            subst h2
            refine ⟨rfl, part_run hu rfl ha w, part_run hu rfl hb' w, ?_⟩
            cases a <;> simp only [eqCell] at hr <;> try cases hr
            cases b' <;> simp only at hr <;> try cases hr
            exact run_equalIn_bool w d f.type _ _ hu
          · cases hp1
        split at hb
        · rename_i hr
          obtain ⟨_, k1, k2, k3⟩ := key true hr
          simp only [k1, k2, k3, Result.andThen_ok, Bool.not_true, Bool.false_eq_true, if_false]
          exact ih hp2 hb
        · rename_i hr
          obtain ⟨_, k1, k2, k3⟩ := key false hr
          simp only [Option.some.injEq] at hb
          subst hb
          simp only [k1, k2, k3, Result.andThen_ok, Bool.not_false, if_true, Sem.run_pure]
        · cases hb
      · cases hb
theorem plan_run {P : Program} {t : TypeId} {pl : List (Nat × Nat)} (hp : Pln P t pl) {xs ys : List Value} {b : Bool} (hb : eqPlan pl xs ys = some b) (w : World) : P.eqGuardType P.depth t = false ∧ (Op.equalIn 10000 t (.agg xs.toArray) (.agg ys.toArray)).run P w = .ok b w := by
  have h := hp.h
  unfold planOf at h
  split at h
  · rename_i fs hu
    split at h
    · cases h
    · rename_i hg
      simp only [Bool.or_eq_true, not_or, Bool.not_eq_true] at hg
      refine ⟨hg.2, ?_⟩
      have hf : P.fieldsOf t = fs := by simp [Program.fieldsOf, hu]
      rw [run_equalIn_struct w 9999 t xs.toArray ys.toArray (by rw [hf]; exact hu) hg.1, hf]
      exact eqFields_run 9998 w h hb
  · cases h
section
variable {P : Program} {n : Nat} {F : Frm} {H R : List Ent} {o : Oper} {x y z : Operand} {v u z' : Value} {T T' : TypeId}
theorem q_seql {pl : List (Nat × Nat)} [hp : Pln P T pl] {xs ys : List Value} {b : Bool} (ho : o.op = .binOp .eql T x y T') (hx : ev F x = some (.agg xs.toArray)) (hy : ev F y = some (.agg ys.toArray)) (hb : eqPlan pl xs ys = some b) : Qt P n o F H (.bool b) := fun a w ha _ => by
  obtain ⟨h1, h2⟩ := plan_run hp hb w
  simp only [execOp, ho, ha.eval hx, ha.eval hy, Sem.run_bind, run_eqGuard_agg w _ T _ _ _ _ h1, Result.andThen_ok, run_eql_struct, h2, Sem.run_pure]
theorem q_sneq {pl : List (Nat × Nat)} [hp : Pln P T pl] {xs ys : List Value} {b : Bool} (ho : o.op = .binOp .neq T x y T') (hx : ev F x = some (.agg xs.toArray)) (hy : ev F y = some (.agg ys.toArray)) (hb : eqPlan pl xs ys = some b) : Qt P n o F H (.bool (!b)) := fun a w ha _ => by
  obtain ⟨h1, h2⟩ := plan_run hp hb w
  simp only [execOp, ho, ha.eval hx, ha.eval hy, Sem.run_bind, run_eqGuard_agg w _ T _ _ _ _ h1, Result.andThen_ok, run_neq_struct, h2, Sem.run_pure]
theorem str_beq_t {s t : ByteArray} (h : s = t) : (s.toList == t.toList) = true := by subst h; simp
theorem str_beq_f {s t : ByteArray} (h : s ≠ t) : (s.toList == t.toList) = false := by
  simp only [beq_eq_false_iff_ne, ne_eq]
  intro e
  exact h (str_inj e)
/-- values that stand for things: how they compare -/
class EqV (P : Program) (T : TypeId) {α : outParam Type} (val : outParam (α → Value)) : Prop where
  g : ∀ (op : BinOp) (x y : Operand) (p q : α) (w : World), (eqGuard op T x y (val p) (val q)).run P w = .ok () w
  t : ∀ (p : α) (w : World), (binOp .eql T (val p) (val p)).run P w = .ok (.bool true) w ∧ (binOp .neq T (val p) (val p)).run P w = .ok (.bool false) w
  f : ∀ (p q : α) (w : World), p ≠ q → (binOp .eql T (val p) (val q)).run P w = .ok (.bool false) w ∧ (binOp .neq T (val p) (val q)).run P w = .ok (.bool true) w
theorem eqV_of {pl : List (Nat × Nat)} {α : Type} {f : α → List Value} (hp : Pln P T pl) (h : ∀ p q, eqPlan pl (f p) (f p) = some true ∧ (p ≠ q → eqPlan pl (f p) (f q) = some false)) : EqV P T fun p => Value.agg (f p).toArray :=
  ⟨fun op x y p q w => by
    by_cases hpq : p = q
    · subst hpq
      exact run_eqGuard_agg w op T _ _ _ _ (plan_run hp (h p p).1 w).1
    · exact run_eqGuard_agg w op T _ _ _ _ (plan_run hp ((h p q).2 hpq) w).1,
   fun p w => by
    obtain ⟨g1, g2⟩ := plan_run hp (h p p).1 w
    simp [run_eql_struct, run_neq_struct, g2],
   fun p q w hne => by
    obtain ⟨g1, g2⟩ := plan_run hp ((h p q).2 hne) w
    simp [run_eql_struct, run_neq_struct, g2]⟩
instance [hs : Strg P T] : EqV P T Value.string := ⟨fun op x y p q w => by simp [eqGuard], fun p w => by simp [binOp, Op.stringOp], fun p q w hne => by
    have e := str_beq_f hne
    simp only [beq_eq_false_iff_ne, ne_eq] at e
    simp [binOp, Op.stringOp, e]⟩
instance {k : IntKind} [hs : IntK P T k] : EqV P T (Value.int k) := ⟨fun op x y p q w => by simp [eqGuard], fun p w => by simp [binOp, Op.intCmp], fun p q w hne => by simp [binOp, Op.intCmp, hne]⟩
theorem q_veql_t {α : Type} {val : α → Value} [he : EqV P T val] {p q : α} (ho : o.op = .binOp .eql T x y T') (hx : ev F x = some (val p)) (hy : ev F y = some (val q)) (h : p = q) : Qt P n o F H (.bool true) := fun a w ha _ => by
  subst h
  simp only [execOp, ho, ha.eval hx, ha.eval hy, Sem.run_bind, he.g, Result.andThen_ok, (he.t p w).1, Sem.run_pure]
theorem q_vneq_t {α : Type} {val : α → Value} [he : EqV P T val] {p q : α} (ho : o.op = .binOp .neq T x y T') (hx : ev F x = some (val p)) (hy : ev F y = some (val q)) (h : p = q) : Qt P n o F H (.bool false) := fun a w ha _ => by
  subst h
  simp only [execOp, ho, ha.eval hx, ha.eval hy, Sem.run_bind, he.g, Result.andThen_ok, (he.t p w).2, Sem.run_pure]
theorem q_veql_f {α : Type} {val : α → Value} [he : EqV P T val] {p q : α} (ho : o.op = .binOp .eql T x y T') (hx : ev F x = some (val p)) (hy : ev F y = some (val q)) (h : p ≠ q) : Qt P n o F H (.bool false) := fun a w ha _ => by
  simp only [execOp, ho, ha.eval hx, ha.eval hy, Sem.run_bind, he.g, Result.andThen_ok, (he.f p q w h).1, Sem.run_pure]
theorem q_vneq_f {α : Type} {val : α → Value} [he : EqV P T val] {p q : α} (ho : o.op = .binOp .neq T x y T') (hx : ev F x = some (val p)) (hy : ev F y = some (val q)) (h : p ≠ q) : Qt P n o F H (.bool true) := fun a w ha _ => by
  simp only [execOp, ho, ha.eval hx, ha.eval hy, Sem.run_bind, he.g, Result.andThen_ok, (he.f p q w h).2, Sem.run_pure]
end
/-- structs of numbers and strings -/
def fII (p : Int × Int) : List Value := [.int .i64 p.1, .int .i64 p.2]
def fSI (p : ByteArray × Int) : List Value := [.string p.1, .int .i64 p.2]
def fIIS (p : Int × Int × ByteArray) : List Value := [.int .i64 p.1, .int .i64 p.2.1, .string p.2.2]
def fIIIS (p : Int × Int × Int × ByteArray) : List Value := [.int .i64 p.1, .int .i64 p.2.1, .int .i64 p.2.2.1, .string p.2.2.2]
def fIIU (p : Int × Int × Int) : List Value := [.int .i64 p.1, .int .i64 p.2.1, .int .u8 p.2.2]
def fUI (p : Int × Int) : List Value := [.int .u64 p.1, .int .i64 p.2]
theorem one_fII (p : Int × Int) : ∀ u ∈ fII p, u.oneCell' = true := by simp [fII, Value.oneCell']
theorem one_fSI (p : ByteArray × Int) : ∀ u ∈ fSI p, u.oneCell' = true := by simp [fSI, Value.oneCell']
theorem one_fIIS (p : Int × Int × ByteArray) : ∀ u ∈ fIIS p, u.oneCell' = true := by simp [fIIS, Value.oneCell']
theorem one_fIIIS (p : Int × Int × Int × ByteArray) : ∀ u ∈ fIIIS p, u.oneCell' = true := by simp [fIIIS, Value.oneCell']
theorem one_fIIU (p : Int × Int × Int) : ∀ u ∈ fIIU p, u.oneCell' = true := by simp [fIIU, Value.oneCell']
theorem one_fUI (p : Int × Int) : ∀ u ∈ fUI p, u.oneCell' = true := by simp [fUI, Value.oneCell']
theorem pln_P (p q : Int × ByteArray) : eqPlan [(0, 0), (1, 1)] (fP p) (fP p) = some true ∧ (p ≠ q → eqPlan [(0, 0), (1, 1)] (fP p) (fP q) = some false) := by
  obtain ⟨a, s⟩ := p
  obtain ⟨b, t⟩ := q
  refine ⟨by simp [eqPlan, eqCell, fP], fun h => ?_⟩
  by_cases e : a = b
  · subst e
    have : s ≠ t := fun e => h (by rw [e])
    simp [eqPlan, eqCell, fP, str_beq_f this]
  · have : (a == b) = false := by simp [e]
    simp [eqPlan, eqCell, fP, this]
theorem pln_II (p q : Int × Int) : eqPlan [(0, 0), (1, 0)] (fII p) (fII p) = some true ∧ (p ≠ q → eqPlan [(0, 0), (1, 0)] (fII p) (fII q) = some false) := by
  obtain ⟨a, s⟩ := p
  obtain ⟨b, t⟩ := q
  refine ⟨by simp [eqPlan, eqCell, fII], fun h => ?_⟩
  by_cases e : a = b
  · subst e
    have : s ≠ t := fun e => h (by rw [e])
    have : (s == t) = false := by simp [this]
    simp [eqPlan, eqCell, fII, this]
  · have : (a == b) = false := by simp [e]
    simp [eqPlan, eqCell, fII, this]
theorem pln_IIS (p q : Int × Int × ByteArray) : eqPlan [(0, 0), (1, 0), (2, 1)] (fIIS p) (fIIS p) = some true ∧ (p ≠ q → eqPlan [(0, 0), (1, 0), (2, 1)] (fIIS p) (fIIS q) = some false) := by
  obtain ⟨a, b, s⟩ := p
  obtain ⟨c, d, t⟩ := q
  refine ⟨by simp [eqPlan, eqCell, fIIS], fun h => ?_⟩
  by_cases e : a = c
  · subst e
    by_cases e2 : b = d
    · subst e2
      have : s ≠ t := fun e => h (by rw [e])
      simp [eqPlan, eqCell, fIIS, str_beq_f this]
    · have : (b == d) = false := by simp [e2]
      simp [eqPlan, eqCell, fIIS, this]
  · have : (a == c) = false := by simp [e]
    simp [eqPlan, eqCell, fIIS, this]
theorem pln_IIIS (p q : Int × Int × Int × ByteArray) : eqPlan [(0, 0), (1, 0), (2, 0), (3, 1)] (fIIIS p) (fIIIS p) = some true ∧ (p ≠ q → eqPlan [(0, 0), (1, 0), (2, 0), (3, 1)] (fIIIS p) (fIIIS q) = some false) := by
  obtain ⟨a, b, f, s⟩ := p
  obtain ⟨c, d, g, t⟩ := q
  refine ⟨by simp [eqPlan, eqCell, fIIIS], fun h => ?_⟩
  by_cases e : a = c
  · subst e
    by_cases e2 : b = d
    · subst e2
      by_cases e3 : f = g
      · subst e3
        have : s ≠ t := fun e => h (by rw [e])
        simp [eqPlan, eqCell, fIIIS, str_beq_f this]
      · have : (f == g) = false := by simp [e3]
        simp [eqPlan, eqCell, fIIIS, this]
    · have : (b == d) = false := by simp [e2]
      simp [eqPlan, eqCell, fIIIS, this]
  · have : (a == c) = false := by simp [e]
    simp [eqPlan, eqCell, fIIIS, this]
theorem pln_SI (p q : ByteArray × Int) : eqPlan [(0, 1), (1, 0)] (fSI p) (fSI p) = some true ∧ (p ≠ q → eqPlan [(0, 1), (1, 0)] (fSI p) (fSI q) = some false) := by
  obtain ⟨s, a⟩ := p
  obtain ⟨t, b⟩ := q
  refine ⟨by simp [eqPlan, eqCell, fSI], fun h => ?_⟩
  by_cases e : s = t
  · subst e
    have : a ≠ b := fun e => h (by rw [e])
    have : (a == b) = false := by simp [this]
    simp [eqPlan, eqCell, fSI, this]
  · simp [eqPlan, eqCell, fSI, str_beq_f e]
theorem pln_IIU (p q : Int × Int × Int) : eqPlan [(0, 0), (1, 0), (2, 0)] (fIIU p) (fIIU p) = some true ∧ (p ≠ q → eqPlan [(0, 0), (1, 0), (2, 0)] (fIIU p) (fIIU q) = some false) := by
  obtain ⟨a, b, s⟩ := p
  obtain ⟨c, d, t⟩ := q
  refine ⟨by simp [eqPlan, eqCell, fIIU], fun h => ?_⟩
  by_cases e : a = c
  · subst e
    by_cases e2 : b = d
    · subst e2
      have : s ≠ t := fun e => h (by rw [e])
      have : (s == t) = false := by simp [this]
      simp [eqPlan, eqCell, fIIU, this]
    · have : (b == d) = false := by simp [e2]
      simp [eqPlan, eqCell, fIIU, this]
  · have : (a == c) = false := by simp [e]
    simp [eqPlan, eqCell, fIIU, this]
end Go.Proofs.Ytcbpeampjhegcaa.sl
