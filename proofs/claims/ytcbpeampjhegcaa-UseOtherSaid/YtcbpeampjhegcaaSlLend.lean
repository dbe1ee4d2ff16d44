/-
  The small separation logic: a call that is lent what it only reads. Nothing here speaks of the program.
-/
import Derived.Test.YtcbpeampjhegcaaSlMore
namespace Go.Proofs.Ytcbpeampjhegcaa.sl
open Go.RowKit kit
set_option linter.unusedVariables false

theorem set_z (a v : Value) (l : List Value) : (a :: l).set 0 v = v :: l := rfl
theorem set_s {a v : Value} {l l' : List Value} {i : Nat} (h : l.set i v = l') : (a :: l).set (i + 1) v = a :: l' := by rw [← h]; rfl
/-- an entry that for a while is only read -/
def fro (e : Ent) : Ent := { e with excl := false }
theorem fro_foot (e : Ent) (b : Nat) : (fro e).foot b = e.foot b := rfl
theorem fro_holds (e : Ent) (w : World) : (fro e).holds w = e.holds w := rfl
/-- c tells of what lies in S -/
structure View (S : List Ent) (c : Ent) : Prop where
  shared : c.excl = false
  holds : ∀ w, HeapOk S w → c.holds w
  foot : ∀ b, c.foot b → ∃ e ∈ S, e.foot b
theorem View.same {S R : List Ent} {e : Ent} (p : Pick e S R) (h : e.excl = false) : View S e := ⟨h, fun w hw => hw.1 e p.mem, fun b hb => ⟨e, p.mem, hb⟩⟩
theorem View.own {S R : List Ent} {e sz m : Nat} {α : Type} {f : α → List Value} {ys : List α} {v : Value} (p : Pick (own v e sz m (flat f ys)) S R) (hf : ∀ y, (f y).length = sz) (hm : m = ys.length) : View S (sl sz v (ys.map f)) :=
  ⟨rfl, fun w hw => own_sliceN hf hm (hw.1 _ p.mem), fun b hb => ⟨_, p.mem, hb.2⟩⟩
theorem sl_part {w : World} {sz n c m : Nat} {q : Option Addr} {α : Type} {f : α → List Value} {xs : List α} (h : SliceAt w sz (.slice q n c) (xs.map f)) (hm : m ≤ xs.length) : SliceAt w sz (.slice q m c) ((xs.take m).map f) := by
  rcases h with ⟨h0, h1⟩ | ⟨b, off, cap, hv, h2, h3, h4, h5, h6⟩
  · have hx : xs = [] := by simpa using h0
    subst hx
    have hm0 : m = 0 := by simpa using hm
    subst hm0
    refine .inl ⟨rfl, ?_⟩
    rcases h1 with h1 | ⟨a, cap, h1⟩
    · cases h1
      exact .inl rfl
    · cases h1
      exact .inr ⟨_, _, rfl⟩
  · cases hv
    by_cases h0 : m = 0
    · subst h0
      exact .inl ⟨rfl, .inr ⟨_, _, rfl⟩⟩
    · have hl : ((xs.take m).map f).length = m := by simp; omega
      simp only [List.length_map] at h2
      refine .inr ⟨b, off, c, by rw [hl], by omega, h3, by omega, h5, fun i r hr => h6 i r ?_⟩
      rw [List.map_take, List.getElem?_take] at hr
      split at hr
      · exact hr
      · cases hr
theorem View.part {S R : List Ent} {sz n c m : Nat} {q : Option Addr} {α : Type} {f : α → List Value} {xs : List α} (p : Pick (sl sz (.slice q n c) (xs.map f)) S R) (hm : m ≤ xs.length) : View S (sl sz (.slice q m c) ((xs.take m).map f)) :=
  ⟨rfl, fun w hw => sl_part (hw.1 _ p.mem) hm, fun b hb => ⟨_, p.mem, fun e => hb.1 (by rw [List.map_take, e]; simp), by
    have h2 := hb.2
    cases q <;> exact h2⟩⟩
theorem View.emp {S : List Ent} {sz : Nat} {α : Type} {f : α → List Value} {xs : List α} (hx : xs = []) : View S (sl sz (.slice none 0 0) (xs.map f)) := by
  subst hx
  exact ⟨rfl, fun w _ => .inl ⟨rfl, .inl rfl⟩, fun b hb => absurd rfl hb.1⟩
/-- C is handed over from H: what is not shared goes out, S stays -/
inductive Lp : List Ent → List Ent → List Ent → Prop
  | nil {H} : Lp [] H H
  | view {c C H S} : c.excl = false → Lp C H S → View S c → Lp (c :: C) H S
  | out {e C H R S} : Pick e H R → Lp C R S → Lp (e :: C) H S
theorem Lp.parts {C H S : List Ent} (p : Lp C H S) : ∃ O V, C.Perm (O ++ V) ∧ H.Perm (O ++ S) ∧ ∀ c ∈ V, View S c := by
  induction p with
  | nil => exact ⟨[], [], List.Perm.refl _, List.Perm.refl _, fun c hc => by cases hc⟩
  | @view c C H S _ _ hv ih =>
    obtain ⟨O, V, h1, h2, h3⟩ := ih
    refine ⟨O, c :: V, (h1.cons c).trans List.perm_middle.symm, h2, fun d hd => ?_⟩
    rcases List.mem_cons.1 hd with rfl | hd
    · exact hv
    · exact h3 d hd
  | out p _ ih =>
    obtain ⟨O, V, h1, h2, h3⟩ := ih
    exact ⟨_ :: O, V, h1.cons _, p.perm.trans (h2.cons _), h3⟩
theorem Lp.ok {C H S : List Ent} (p : Lp C H S) {w : World} (h : HeapOk H w) : HeapOk (C ++ S.map fro) w := by
  obtain ⟨O, V, h1, h2, h3⟩ := p.parts
  have hh := h.perm h2
  have hS : HeapOk S w := hh.sub (List.sublist_append_right _ _)
  refine HeapOk.perm (h1.symm.append_right _) ?_
  have hp := List.pairwise_append.1 hh.2
  have hV : ∀ c ∈ V, c.excl = false := fun c hc => (h3 c hc).shared
  refine ⟨fun e he => ?_, ?_⟩
  · rcases List.mem_append.1 he with he | he
    · rcases List.mem_append.1 he with he | he
      · exact hh.1 e (List.mem_append_left _ he)
      · exact (h3 e he).holds w hS
    · obtain ⟨g, hg, rfl⟩ := List.mem_map.1 he
      exact hS.1 g hg
  · rw [List.append_assoc]
    refine List.pairwise_append.2 ⟨hp.1, List.pairwise_append.2 ⟨?_, ?_, ?_⟩, ?_⟩
    · exact List.Pairwise.imp_of_mem (R := fun _ _ => True) (fun {a b} ha hb _ hx => by rw [hV a ha, hV b hb] at hx; rcases hx with hx | hx <;> cases hx) (List.pairwise_of_forall (fun _ _ => trivial))
    · refine List.Pairwise.map _ (fun a b _ hx => ?_) hp.2.1
      rcases hx with hx | hx <;> cases hx
    · intro c hc d hd hx
      obtain ⟨g, hg, rfl⟩ := List.mem_map.1 hd
      rw [hV c hc] at hx
      rcases hx with hx | hx <;> cases hx
    · intro o ho c hc hx b h4 h5
      rcases List.mem_append.1 hc with hc | hc
      · obtain ⟨g, hg, h6⟩ := (h3 c hc).foot b h5
        rw [hV c hc] at hx
        rcases hx with hx | hx
        · exact hp.2.2 o ho g hg (.inl hx) b h4 h6
        · cases hx
      · obtain ⟨g, hg, rfl⟩ := List.mem_map.1 hc
        rcases hx with hx | hx
        · exact hp.2.2 o ho g hg (.inl hx) b h4 h5
        · cases hx
theorem Lp.back {C H S H1 : List Ent} (p : Lp C H S) {w w' : World} (h : HeapOk H w) (hx : ∀ e ∈ H1, e.excl = true) (h' : HeapOk (H1 ++ S.map fro) w') : HeapOk (H1 ++ S) w' := by
  obtain ⟨O, V, h1, h2, h3⟩ := p.parts
  have hS : HeapOk S w := (h.perm h2).sub (List.sublist_append_right _ _)
  have hp := List.pairwise_append.1 h'.2
  refine ⟨fun e he => ?_, List.pairwise_append.2 ⟨hp.1, hS.2, fun a ha b hb _ k h4 h5 => ?_⟩⟩
  · rcases List.mem_append.1 he with he | he
    · exact h'.1 e (List.mem_append_left _ he)
    · exact h'.1 (fro e) (List.mem_append_right _ (List.mem_map.2 ⟨e, he, rfl⟩))
  · exact hp.2.2 a ha (fro b) (List.mem_map.2 ⟨b, hb, rfl⟩) (.inl (hx a ha)) k h4 h5
/-- what a contract hands back is the call's own -/
class XL (L : List Ent) : Prop where
  h : ∀ e ∈ L, e.excl = true
instance : XL [] := ⟨fun e he => by cases he⟩
instance {v : Value} {e sz m : Nat} {xs : List Value} {L : List Ent} [hl : XL L] : XL (own v e sz m xs :: L) := ⟨fun g hg => by
  rcases List.mem_cons.1 hg with rfl | hg
  · rfl
  · exact hl.h g hg⟩
instance {b : Nat} {cs : List Value} {t : TypeId} {L : List Ent} [hl : XL L] : XL (box b cs t :: L) := ⟨fun g hg => by
  rcases List.mem_cons.1 hg with rfl | hg
  · rfl
  · exact hl.h g hg⟩
class Xcl (R : Value → List Ent → Prop) : Prop where
  h : ∀ v H, R v H → ∀ e ∈ H, e.excl = true
instance {p : Value → Prop} {L : List Ent} [hl : XL L] : Xcl fun v H' => p v ∧ H' = L := ⟨fun v H h => by rw [h.2]; exact hl.h⟩
instance {p : Prop} {q : Value → Prop} {L : List Ent} [hl : XL L] : Xcl fun v H' => p ∧ q v ∧ H' = L := ⟨fun v H h => by rw [h.2.2]; exact hl.h⟩
instance {α : Sort _} {R : α → Value → List Ent → Prop} [hr : ∀ a, Xcl (R a)] : Xcl fun v H' => ∃ a, R a v H' := ⟨fun v H ⟨a, h⟩ => (hr a).h v H h⟩
instance {R R' : Value → List Ent → Prop} [hr : Xcl R] [hr' : Xcl R'] : Xcl fun v H' => R v H' ∨ R' v H' := ⟨fun v H h => by
  rcases h with h | h
  · exact hr.h v H h
  · exact hr'.h v H h⟩
instance {p : Prop} {R : Value → List Ent → Prop} [hr : Xcl R] : Xcl fun v H' => p ∧ R v H' := ⟨fun v H h => hr.h v H h.2⟩
theorem ct_imp {P : Program} {f : FuncId} {args : List Value} {H : List Ent} {R R' : Value → List Ent → Prop} (h : Ct P f args H R) (hi : ∀ v H', R v H' → R' v H') : Ct P f args H R' :=
  ⟨fun Fr w hw => (h.go Fr w hw).mono fun e w' ⟨v, H', h1, h2, h3⟩ => ⟨v, H', h1, hi v H' h2, h3⟩⟩
theorem ct_true {P : Program} {f : FuncId} {args : List Value} {H : List Ent} {p : Prop} [Decidable p] (c : Ct P f args H fun v H' => v = .bool (decide p) ∧ H' = []) (h : p) : Ct P f args H fun v H' => v = .bool true ∧ H' = [] := by
  rwa [decide_eq_true h] at c
theorem ct_false {P : Program} {f : FuncId} {args : List Value} {H : List Ent} {p : Prop} [Decidable p] (c : Ct P f args H fun v H' => v = .bool (decide p) ∧ H' = []) (h : ¬ p) : Ct P f args H fun v H' => v = .bool false ∧ H' = [] := by
  rwa [decide_eq_false h] at c
/-- what an operation is, for the choice of a law -/
def opKind : Op → Nat
  | .move _ => 1
  | .assign _ => 1
  | .pick _ _ _ => 1
  | .extract _ _ => 1
  | .load _ _ => 2
  | .fieldAddr _ _ _ => 3
  | .indexAddr _ _ _ => 3
  | .field _ _ _ => 3
  | .index _ _ _ => 3
  | .nilCheck _ => 3
  | .binOp _ _ _ _ _ => 4
  | .unOp _ _ _ => 4
  | .build _ _ => 5
  | .makeFunc _ _ _ => 5
  | .call c => match c.callee with
    | .builtin _ => 6
    | _ => 7
  | .alloc _ => 8
  | .box _ _ => 8
  | .store _ _ _ => 9
  | .buildSlice _ _ _ => 10
  | .convert _ _ _ => 11
  | .slice _ _ _ _ _ => 12
  | _ => 0
section
variable {P : Program} {n : Nat} {F : Frm} {H R : List Ent} {o : Oper} {x y z : Operand} {v u z' : Value} {T : TypeId}
/-- what a piece of the code must bring about -/
def Cut {σ : Type} (n : Nat) (I : σ → Prop) (Fi : σ → Frm) (Hi : σ → List Ent) : Post := fun e a w => e = .normal ∧ ∃ y, I y ∧ Ok (Fi y) n a ∧ HeapOk (Hi y) w
theorem cod_cut {c : Code} {Q : Post} {σ : Type} (I : σ → Prop) (G : σ → Frm) (E : σ → List Ent) (F0 : Frm) (S : List Ent) (first : Cod P (Cut n I (fun x => G x ++ F0) (fun x => E x ++ S)) n c F H) (rest : ∀ x, I x → Pst Q .normal n (G x ++ F0) (E x ++ S)) : Cod P Q n c F H :=
  fun a w ha hw => wp_mono (first a w ha hw) fun e a w ⟨he, x, hI, hF, hH⟩ => by subst he; exact rest x hI a w hF hH
theorem cod_cut_drop (d : Nat) {c : Code} {Q : Post} {σ : Type} (I : σ → Prop) (G : σ → Frm) (E : σ → List Ent) (first : Cod P (Cut n I (fun x => G x ++ F) (fun x => E x ++ H.drop d)) n c F H) (rest : ∀ x, I x → Pst Q .normal n (G x ++ F) (E x ++ H.drop d)) : Cod P Q n c F H := cod_cut I G E F (H.drop d) first rest
theorem pst_cut {σ : Type} {I : σ → Prop} {Fi : σ → Frm} {Hi : σ → List Ent} (y : σ) (hI : I y) (hF : FSub F (Fi y)) (hH : HSub H (Hi y)) : Pst (Cut n I Fi Hi) .normal n F H := fun a w ha hw => ⟨rfl, y, hI, ha.sub hF, hH w hw⟩
theorem q_slice_h {t e sz by' N c m : Nat} {agg : Bool} {q : Option Addr} {k : IntKind} {j : Int} {rows : List (List Value)} [ht : Sli P t e] [hs : Ty P e agg sz by' z'] (ho : o.op = .slice t x none (some y) none) (hx : ev F x = some (.slice q N c)) (hy : ev F y = some (.int k j)) (p : Pick (sl sz (.slice q N c) rows) H R) (hj : j = (m : Int)) (hm : m ≤ N) : Qt P n o F H (.slice q m c) := fun a w ha hw => by
  subst hj
  have hb : SliceAt w sz (.slice q N c) rows := hw.1 _ p.mem
  have hc : m ≤ c := by
    rcases hb with ⟨_, h1⟩ | ⟨b, off, cap, hv, h2, _⟩
    · rcases h1 with h1 | ⟨a, cap, h1⟩
      · cases h1; exact hm
      · cases h1; omega
    · cases hv; omega
  have he : P.elem t = e := by simp [Program.elem, ht.h]
  have hu : P.underlying t = some (.slice (P.elem t)) := by rw [he]; exact ht.h
  have h1 := run_slice_h (P := P) w t q N c hu k (m : Int) (by omega) (by omega)
  rw [he, sizeOf_run hs] at h1
  have hv : sliced q 0 ((m : Int)).toNat c sz = .slice q m c := by
    simp [sliced, Addr.add]
  simp only [Result.andThen_ok, hv] at h1
  simp only [execOp, ho, Option.map_some, Option.map_none, ha.eval hx, ha.eval hy, Sem.run_bind, Sem.run_pure, run_sliceAt_slice w t _ _ _ _ hu, h1, Result.andThen_ok]
theorem run_qg (kd : Nat) {ops : Array Oper} {Q : Post} {rest : List Oper} {d : Nat} {op : Op} {ty : TypeId} {ps : String} {af : Array Edge} {g : Option (Nat × Bool)} {v : Value} (hk : opKind op = kd) (hg : Wtd ops F ⟨some d, op, ty, ps, af, g⟩) (hd : Nat.blt d n = true) (h : Qt P n ⟨some d, op, ty, ps, af, g⟩ F H v) (k : Run P ops Q n rest ((d, v) :: F) H) : Run P ops Q n (⟨some d, op, ty, ps, af, g⟩ :: rest) F H := run_qs hg hd h k
theorem run_osg (kd : Nat) {ops : Array Oper} {Q : Post} {rest : List Oper} {d : Nat} {op : Op} {ty : TypeId} {ps : String} {af : Array Edge} {g : Option (Nat × Bool)} {K : Value → List Ent → Prop} (hk : opKind op = kd) (hg : Wtd ops F ⟨some d, op, ty, ps, af, g⟩) (hd : Nat.blt d n = true) (h : Opr P n ⟨some d, op, ty, ps, af, g⟩ F H K) (k : ∀ v H', K v H' → Run P ops Q n rest ((d, v) :: F) H') : Run P ops Q n (⟨some d, op, ty, ps, af, g⟩ :: rest) F H := run_os hg hd h k
theorem run_ong (kd : Nat) {ops : Array Oper} {Q : Post} {rest : List Oper} {op : Op} {ty : TypeId} {ps : String} {af : Array Edge} {g : Option (Nat × Bool)} {K : Value → List Ent → Prop} (hk : opKind op = kd) (hg : Wtd ops F ⟨none, op, ty, ps, af, g⟩) (h : Opr P n ⟨none, op, ty, ps, af, g⟩ F H K) (k : ∀ v H', K v H' → Run P ops Q n rest F H') : Run P ops Q n (⟨none, op, ty, ps, af, g⟩ :: rest) F H := run_on hg h k
theorem run_dropn {ops : Array Oper} {Q : Post} {l : List Oper} (k : Nat) (h : Run P ops Q n l F (H.drop k)) : Run P ops Q n l F H := run_heap (HSub.of_sub (List.drop_sublist k H)) h
theorem cod_dropn {c : Code} {Q : Post} (k : Nat) (h : Cod P Q n c F (H.drop k)) : Cod P Q n c F H := cod_heap (HSub.of_sub (List.drop_sublist k H)) h
theorem opr_call_l {f : FuncId} [hc : Cal P f] {args : List Operand} {ts : Array TypeId} {vs : List Value} {C S : List Ent} {Rs : Value → List Ent → Prop} [hX : Xcl Rs] (ho : o.op = .call { callee := .value (.func f), args := args.toArray, argTypes := ts }) (hs : Ct P f vs C Rs) (hv : evl F args = some vs) (p : Lp C H S) : Opr P n o F H fun v H' => ∃ H1, Rs v H1 ∧ H' = H1 ++ S := fun Q a w next ha hw hn => by
  have he := evl_eval ha hv
  have e1 : args.toArray.map a.eval = vs.toArray := by simpa using he
  unfold Oper.wp
  simp only [execOp, ho, resolve, Deferred.ofValue, Act.eval, invoke, e1, Sem.run_bind, Sem.run_pure, Result.andThen_ok, callFunc_run]
  simp only [Array.append_empty, List.append_toArray, List.nil_append, Oper.upon]
  refine (hs.go _ w (p.ok hw)).mono ?_
  rintro e w' ⟨v, H1, rfl, h1, h2⟩
  exact hn v _ w' ⟨H1, h1, rfl⟩ (p.back hw (hX.h v H1 h1) h2)
theorem opr_call_ls {f : FuncId} [hc : Cal P f] {args : List Operand} {ts : Array TypeId} {vs : List Value} {C S : List Ent} {u : Value} (ho : o.op = .call { callee := .value (.func f), args := args.toArray, argTypes := ts }) (hs : Ct P f vs C fun v H' => v = u ∧ H' = []) (hv : evl F args = some vs) (p : Lp C H S) : Opr P n o F H fun v H' => v = u ∧ H' = S := fun Q a w next ha hw hn =>
  opr_call_l ho hs hv p Q a w next ha hw fun v H' w' ⟨H1, ⟨h1, h2⟩, h3⟩ hw' => hn v H' w' ⟨h1, by rw [h3, h2]; rfl⟩ hw'
end
section
variable {P : Program} {ops : Array Oper} {Q : Post} {n : Nat} {Hq : List Ent} {nk : List Nat} {k : Nat} {L : Array Bool} {F : Frm} {H : List Ent}
/-- a drawn region, with the numbers that are taken next -/
def DrnL (l : List Nat) (P : Program) (ops : Array Oper) (Q : Post) (n : Nat) (Hq : List Ent) (nk : List Nat) (k : Nat) (L : Array Bool) (F : Frm) (H : List Ent) : Prop := Drn P ops Q n Hq nk k L F H
theorem drnL_start (l : List Nat) (h : DrnL l P ops Q n Hq nk k L F H) : Drn P ops Q n Hq nk k L F H := h
theorem drnL_end (h : Drn P ops Q n Hq nk k L F H) : DrnL [] P ops Q n Hq nk k L F H := h
theorem drnL_take {i : Nat} {l : List Nat} {d : Nat} {op : Op} {ty : TypeId} {ps : String} {af : Array Edge} {g : Option (Nat × Bool)} {v : Value} (hi : ops[i]? = some ⟨some d, op, ty, ps, af, g⟩) (hg : Wtd ops F ⟨some d, op, ty, ps, af, g⟩) (hb : mayTake ops nk L i = true) (hs : HSub H Hq) (hd : Nat.blt d n = true) (hq : Qt P n ⟨some d, op, ty, ps, af, g⟩ F Hq v)
    (h : DrnL l P ops Q n Hq nk k (L.setIfInBounds i true) ((d, v) :: F) H) : DrnL (i :: l) P ops Q n Hq nk (k + 1) L F H := drn_take_s i hi hg hb hs hd hq h
theorem drnL_off {i : Nat} {l : List Nat} {d : Nat} {op : Op} {ty : TypeId} {ps : String} {af : Array Edge} {j t : Nat} {b : Bool} (hi : ops[i]? = some ⟨some d, op, ty, ps, af, some (j, b)⟩) (hsl : gslot ops j = some t) (hv : look F t = some (.bool (!b))) (hb : mayTake ops nk L i = true) (hs : HSub H Hq) (hd : Nat.blt d n = true)
    (h : DrnL l P ops Q n Hq nk k (L.setIfInBounds i true) ((d, undef) :: F) H) : DrnL (i :: l) P ops Q n Hq nk (k + 1) L F H := drn_off_s i hi hsl hv hb hs hd h
end
theorem sh_nil {W : World} : ∀ e ∈ ([] : List Ent), e.excl = false ∧ e.holds W := fun e he => by cases he
theorem sh_cons {W : World} {sz : Nat} {v : Value} {rows : List (List Value)} {H : List Ent} (h : SliceAt W sz v rows) (hH : ∀ e ∈ H, e.excl = false ∧ e.holds W) : ∀ e ∈ sl sz v rows :: H, e.excl = false ∧ e.holds W := fun e he => by
  rcases List.mem_cons.1 he with rfl | he
  · exact ⟨rfl, h⟩
  · exact hH e he
theorem len_bound {n k : Nat} (hk0 : Nat.blt 0 k = true) (h : n * k ≤ reachBytes) : n ≤ maxLen := by
  have hk : 0 < k := Nat.le_of_ble_eq_true hk0
  have hr : reachBytes = 140737488351232 := rfl
  rw [hr] at h
  have h2 : n * 1 ≤ n * k := Nat.mul_le_mul_left n hk
  unfold maxLen
  omega
/-- T is T' with rows that hold nothing put in -/
inductive Nild : List Ent → List Ent → Prop
  | refl {T} : Nild T T
  | nil {e sz T T'} : Nild T T' → Nild (own (.slice none 0 0) e sz 0 [] :: T) T'
  | cons {x T T'} : Nild T T' → Nild (x :: T) (x :: T')
theorem Nild.mem {T T' : List Ent} (h : Nild T T') : ∀ x ∈ T, x ∈ T' ∨ ∀ b, ¬ x.foot b := by
  induction h with
  | refl => exact fun x hx => .inl hx
  | nil _ ih =>
    intro x hx
    rcases List.mem_cons.1 hx with rfl | hx
    · exact .inr fun b hb => by cases hb
    · exact ih x hx
  | cons _ ih =>
    intro x hx
    rcases List.mem_cons.1 hx with rfl | hx
    · exact .inl List.mem_cons_self
    · exact (ih x hx).imp (List.mem_cons_of_mem _) id
theorem Nild.ok {T T' : List Ent} (h : Nild T T') {w : World} (hw : HeapOk T' w) : HeapOk T w := by
  induction h with
  | refl => exact hw
  | nil _ ih => exact heap_nil _ _ _ w (ih hw)
  | cons h0 ih =>
    have h1 := ih hw.tail
    have hp := List.pairwise_cons.1 hw.2
    refine ⟨fun f hf => ?_, List.pairwise_cons.2 ⟨fun f hf hx b h2 h3 => ?_, h1.2⟩⟩
    · rcases List.mem_cons.1 hf with rfl | hf
      · exact hw.head
      · exact h1.1 f hf
    · rcases h0.mem f hf with h4 | h4
      · exact hp.1 f h4 hx b h2 h3
      · exact h4 b h3
theorem HSub.of_nild {H T T' : List Ent} (n : Nild T T') (h : HSub H T') : HSub H T := fun w hw => n.ok (h w hw)
/-! ### what is tried at a step, each under a name -/
theorem pka {e : Ent} {H R : List Ent} (h : Pick e H R := by ((repeat (first | exact Pick.here | apply Pick.there)); (first | done | fail))) : Pick e H R := h
theorem wt {ops : Array Oper} {F : Frm} {o : Oper} (h : Wtd ops F o := by (first | exact Wtd.none rfl | exact Wtd.on rfl rfl rfl)) : Wtd ops F o := h
theorem seta {l l' : List Value} {i : Nat} {v : Value} (h : l.set i v = l' := by (first | ((repeat (first | exact set_z _ _ _ | apply set_s)); (first | done | fail)) | rfl)) : l.set i v = l' := h
theorem spla {l l' : List Value} {i : Nat} {v : List Value} (h : splice l i v = l' := by (first | (simp only [splice]; (first | done | fail)) | (simp only [splice]; exact rfl) | rfl)) : splice l i v = l' := h
theorem nfa {a b c : Nat} (h : a + b = c := by (first | (simp only [Nat.reduceAdd]; (first | done | fail)) | (simp only [Nat.reduceAdd]; exact rfl) | rfl)) : a + b = c := h
theorem blda {pl : Nat → Option (Nat × Nat)} {l : List (Nat × Value)} {cs out : List Value} (h : Bld pl l cs out := by (repeat (first | exact Bld.nil | (apply bld_one; (focus rfl); (focus rfl); (focus rfl); (focus exact seta)) | (apply bld_agg; (focus rfl); (focus rfl); (focus rfl); (focus exact spla))))) : Bld pl l cs out := h
theorem pca {C H R : List Ent} (h : Picks C H R := by (repeat (first | exact Picks.nil (List.Sublist.refl _) | (apply Picks.share; (focus exact pka); (first | exact sl_excl _ _ _ | exact old_excl _)) | (apply Picks.out; (focus exact pka))))) : Picks C H R := h
theorem lpa {C H S : List Ent} (h : Lp C H S := by ((repeat' (first | exact Lp.nil | (apply Lp.view; (focus (first | exact sl_excl _ _ _ | exact old_excl _))) | (apply Lp.out; (focus exact pka)) | (first | exact View.same (by exact pka) (by first | exact sl_excl _ _ _ | exact old_excl _) | exact View.emp (by first | rfl | assumption) | exact View.own (by exact pka) (by intro _; rfl) (by first | rfl | assumption | omega | simp) | exact View.part (by exact pka) (by omega) | exact View.front (by exact pka) (by intro _; rfl) (by first | rfl | assumption | omega | simp)))); (first | done | fail))) : Lp C H S := h
theorem hsa {H T : List Ent} (h : HSub H T := by (first | exact HSub.refl _ | exact HSub.of_picks_rest (by (repeat (first | exact Picks.nil (by repeat (first | exact List.Sublist.refl _ | apply List.Sublist.cons)) | (apply Picks.share; (focus exact pka); (first | exact sl_excl _ _ _ | exact old_excl _)) | (apply Picks.out; (focus exact pka)))); (first | done | fail)) | exact HSub.of_cov (by (repeat (first | (apply Cov.share; (focus exact pka); (first | exact sl_excl _ _ _ | exact old_excl _)) | (apply Cov.out; (focus exact pka)) | (apply Cov.base; (first | exact List.nil_sublist _ | ((repeat (first | exact List.Sublist.refl _ | apply List.Sublist.cons)); (first | done | fail)))))); (first | done | fail)) | exact HSub.of_picks (by exact pca; (first | done | fail)) | exact HSub.of_sub (by (repeat (first | exact List.Sublist.refl _ | apply List.Sublist.cons)); (first | done | fail)) | exact HSub.of_nild (by (repeat (first | apply Nild.nil | apply Nild.cons)); exact Nild.refl) (HSub.of_cov (by (repeat (first | (apply Cov.share; (focus exact pka); (first | exact sl_excl _ _ _ | exact old_excl _)) | (apply Cov.out; (focus exact pka)) | (apply Cov.base; (first | exact List.nil_sublist _ | ((repeat (first | exact List.Sublist.refl _ | apply List.Sublist.cons)); (first | done | fail)))))); (first | done | fail))))) : HSub H T := h
theorem hsq {H T : List Ent} (h : HSub H T := by (first | exact HSub.refl _ | exact HSub.nil _ | exact HSub.drop (HSub.refl _) | exact HSub.drop (HSub.drop (HSub.refl _)) | exact HSub.drop (HSub.drop (HSub.drop (HSub.refl _))) | exact HSub.of_picks (by exact pca; (first | done | fail)))) : HSub H T := h
theorem resa {P : Program} {F : Frm} {H : List Ent} {rs : List ResultVar} {v : Value} (h : Res P F H rs v := by (first | exact Res.r0 | exact Res.r1 (by (first | exact ResV.tmp rfl | exact resV_box rfl (by exact pka) (by rfl) | exact resV_cell rfl (by exact pka))) | exact Res.r2 (by (first | exact ResV.tmp rfl | exact resV_box rfl (by exact pka) (by rfl) | exact resV_cell rfl (by exact pka))) (by (first | exact ResV.tmp rfl | exact resV_box rfl (by exact pka) (by rfl) | exact resV_cell rfl (by exact pka))) | exact Res.r3 (by (first | exact ResV.tmp rfl | exact resV_box rfl (by exact pka) (by rfl) | exact resV_cell rfl (by exact pka))) (by (first | exact ResV.tmp rfl | exact resV_box rfl (by exact pka) (by rfl) | exact resV_cell rfl (by exact pka))) (by (first | exact ResV.tmp rfl | exact resV_box rfl (by exact pka) (by rfl) | exact resV_cell rfl (by exact pka))) | exact Res.r4 (by (first | exact ResV.tmp rfl | exact resV_box rfl (by exact pka) (by rfl) | exact resV_cell rfl (by exact pka))) (by (first | exact ResV.tmp rfl | exact resV_box rfl (by exact pka) (by rfl) | exact resV_cell rfl (by exact pka))) (by (first | exact ResV.tmp rfl | exact resV_box rfl (by exact pka) (by rfl) | exact resV_cell rfl (by exact pka))) (by (first | exact ResV.tmp rfl | exact resV_box rfl (by exact pka) (by rfl) | exact resV_cell rfl (by exact pka))) | exact Res.r5 (by (first | exact ResV.tmp rfl | exact resV_box rfl (by exact pka) (by rfl) | exact resV_cell rfl (by exact pka))) (by (first | exact ResV.tmp rfl | exact resV_box rfl (by exact pka) (by rfl) | exact resV_cell rfl (by exact pka))) (by (first | exact ResV.tmp rfl | exact resV_box rfl (by exact pka) (by rfl) | exact resV_cell rfl (by exact pka))) (by (first | exact ResV.tmp rfl | exact resV_box rfl (by exact pka) (by rfl) | exact resV_cell rfl (by exact pka))) (by (first | exact ResV.tmp rfl | exact resV_box rfl (by exact pka) (by rfl) | exact resV_cell rfl (by exact pka))))) : Res P F H rs v := h
theorem fsa {F G : Frm} {l : List Nat} (h : FSubS F l G := by (repeat' (first | exact FSubS.nil | refine FSubS.skip rfl ?_ | refine FSubS.cons (by rfl) ?_ | refine FSubS.cons ?_ ?_))) : FSubS F l G := h
theorem qg1 {P : Program} {n : Nat} {o : Oper} {F : Frm} {H : List Ent} {v : Value} (h : Qt P n o F H v := by (first | exact q_move rfl rfl | exact q_assign rfl rfl | exact q_extract rfl rfl rfl | exact q_pick_t rfl rfl rfl | exact q_pick_f rfl rfl rfl)) : Qt P n o F H v := h
theorem qg2 {P : Program} {n : Nat} {o : Oper} {F : Frm} {H : List Ent} {v : Value} (h : Qt P n o F H v := by (first | exact q_load_cell rfl rfl (by exact pka) rfl | exact q_load_all rfl rfl (by exact pka) (by rfl) | exact q_load_slm1 rfl rfl (by exact pka) (by assumption) rfl | exact q_load_slmA rfl rfl (by exact pka) (by assumption) (by rfl) | exact q_load_ownm1 rfl rfl (by exact pka) (by intro _; rfl) (by assumption) rfl | exact q_load_ownmA rfl rfl (by exact pka) (by intro _; rfl) (by assumption) rfl)) : Qt P n o F H v := h
theorem qg3 {P : Program} {n : Nat} {o : Oper} {F : Frm} {H : List Ent} {v : Value} (h : Qt P n o F H v := by (first | exact q_field_box rfl rfl nfa | exact q_field_elt_s rfl rfl nfa (by exact pka) (by assumption) | exact q_field_elt_o rfl rfl nfa (by exact pka) (by omega) | exact q_index_sl rfl rfl rfl (by exact pka) rfl (by simp only [List.length_map]; omega) | exact q_index_own rfl rfl rfl (by exact pka) rfl (by omega) | exact q_nilCheck_b rfl rfl)) : Qt P n o F H v := h
theorem qg4 {P : Program} {n : Nat} {o : Oper} {F : Frm} {H : List Ent} {v : Value} (h : Qt P n o F H v := by (first | exact q_cmp_b rfl rfl rfl rfl (by first | exact eql_t (by omega) | exact eql_f (by omega) | exact neq_t (by omega) | exact neq_f (by omega) | exact lss_t (by omega) | exact lss_f (by omega) | exact leq_t (by omega) | exact leq_f (by omega) | exact gtr_t (by omega) | exact gtr_f (by omega) | exact geq_t (by omega) | exact geq_f (by omega)) | exact q_not_t rfl rfl | exact q_not_f rfl rfl | exact q_add rfl rfl rfl (by omega) | exact q_sub rfl rfl rfl (by omega) | exact q_mul rfl rfl rfl (by omega) | exact q_veql_t rfl (by rfl) (by rfl) (by first | assumption | exact rfl) | exact q_veql_f rfl (by rfl) (by rfl) (by first | assumption | (intro h; exact absurd (congrArg ByteArray.toList h) (by decide))) | exact q_vneq_t rfl (by rfl) (by rfl) (by first | assumption | exact rfl) | exact q_vneq_f rfl (by rfl) (by rfl) (by first | assumption | (intro h; exact absurd (congrArg ByteArray.toList h) (by decide))))) : Qt P n o F H v := h
theorem qg5 {P : Program} {n : Nat} {o : Oper} {F : Frm} {H : List Ent} {v : Value} (h : Qt P n o F H v := by (first | exact q_mk rfl rfl (by exact blda) | exact q_makeFunc rfl rfl rfl)) : Qt P n o F H v := h
theorem qg6 {P : Program} {n : Nat} {o : Oper} {F : Frm} {H : List Ent} {v : Value} (h : Qt P n o F H v := by (first | exact q_len_slice rfl rfl | exact q_len_str rfl rfl | exact q_min rfl rfl rfl)) : Qt P n o F H v := h
theorem qta {P : Program} {n : Nat} {o : Oper} {F : Frm} {H : List Ent} {v : Value} (h : Qt P n o F H v := by (first | exact q_move rfl rfl | exact q_assign rfl rfl | exact q_field_box rfl rfl nfa | exact q_load_cell rfl rfl (by exact pka) rfl | exact q_load_all rfl rfl (by exact pka) (by rfl) | exact q_extract rfl rfl rfl | exact q_len_slice rfl rfl | exact q_len_str rfl rfl | exact q_pick_t rfl rfl rfl | exact q_pick_f rfl rfl rfl | exact q_not_t rfl rfl | exact q_not_f rfl rfl | exact q_add rfl rfl rfl (by omega) | exact q_sub rfl rfl rfl (by omega) | exact q_mul rfl rfl rfl (by omega) | exact q_load_slm1 rfl rfl (by exact pka) (by assumption) rfl | exact q_load_slmA rfl rfl (by exact pka) (by assumption) (by rfl) | exact q_field_elt_s rfl rfl nfa (by exact pka) (by assumption) | exact q_field_elt_o rfl rfl nfa (by exact pka) (by omega) | exact q_index_sl rfl rfl rfl (by exact pka) rfl (by simp only [List.length_map]; omega) | exact q_index_own rfl rfl rfl (by exact pka) rfl (by omega) | exact q_load_ownm1 rfl rfl (by exact pka) (by intro _; rfl) (by assumption) rfl | exact q_load_ownmA rfl rfl (by exact pka) (by intro _; rfl) (by assumption) rfl | exact q_mk rfl rfl (by exact blda) | exact q_veql_t rfl (by rfl) (by rfl) (by first | assumption | exact rfl) | exact q_veql_f rfl (by rfl) (by rfl) (by first | assumption | (intro h; exact absurd (congrArg ByteArray.toList h) (by decide))) | exact q_vneq_t rfl (by rfl) (by rfl) (by first | assumption | exact rfl) | exact q_vneq_f rfl (by rfl) (by rfl) (by first | assumption | (intro h; exact absurd (congrArg ByteArray.toList h) (by decide))) | exact q_nilCheck_b rfl rfl | exact q_makeFunc rfl rfl rfl | exact q_min rfl rfl rfl | exact q_cmp_b rfl rfl rfl rfl (by first | exact eql_t (by omega) | exact eql_f (by omega) | exact neq_t (by omega) | exact neq_f (by omega) | exact lss_t (by omega) | exact lss_f (by omega) | exact leq_t (by omega) | exact leq_f (by omega) | exact gtr_t (by omega) | exact gtr_f (by omega) | exact geq_t (by omega) | exact geq_f (by omega)))) : Qt P n o F H v := h
end Go.Proofs.Ytcbpeampjhegcaa.sl
