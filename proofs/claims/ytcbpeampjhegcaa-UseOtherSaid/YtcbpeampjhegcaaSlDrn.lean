/-
  The small separation logic: regions that draw their order. What only reads may be taken first, as long as what it reads outlives all that could come ahead of it. Nothing here speaks of the program.
-/
import Derived.Test.YtcbpeampjhegcaaSlMem
import Derived.OrdersHeld
namespace Go.Proofs.Ytcbpeampjhegcaa.sl
open Go.RowKit kit
set_option linter.unusedVariables false

/-- whatever order is picked; behind each operation, but for those of nk, S holds -/
def AnyS (P : Program) (ops : Array Oper) (Q : Post) (S : World → Prop) (nk : List Nat) : Nat → Array Bool → Act → World → Prop
  | 0, L, a, w => Region.ready .any ops L = [] ∧ Q .normal a w
  | k + 1, L, a, w => (Region.ready .any ops L = [] → Q .normal a w) ∧
    ∀ i ∈ Region.ready .any ops L, wpOp P ops Q i (fun a' w' => (i ∉ nk → S w') ∧ AnyS P ops Q S nk k (L.setIfInBounds i true) a' w') a w
section
variable {P : Program} {ops : Array Oper} {Q : Post} {S : World → Prop} {nk : List Nat}
theorem AnyS.any : ∀ (k : Nat) (L : Array Bool) (a : Act) (w : World), AnyS P ops Q S nk k L a w → wpAny P .any ops Q k L a w
  | 0, _, _, _, h => h
  | k + 1, _, _, _, h => ⟨h.1, fun i hi => wpOp_mono (fun a' w' h' => AnyS.any k _ a' w' h'.2) (h.2 i hi)⟩
/-- j comes behind i -/
def behind (ops : Array Oper) (i j : Nat) : Bool := (ops[j]?).any fun o => o.after.any fun e => Region.binds .any e && e.on == i
theorem anyS_first {i : Nat} {oi : Oper} {v : Value} (hi : ops[i]? = some oi) (hsel : ∀ (j : Nat) (o : Oper) cs b, ops[j]? = some o → o.op ≠ .select cs b)
    (hQ : ∀ c a w, ¬ Q (.panic c) a w) (hb : ∀ j ∈ nk, j ≠ i → behind ops i j = true) :
    ∀ (k : Nat) (L : Array Bool) (a : Act) (w : World),
      (∀ j oj, ops[j]? = some oj → j ≠ i → L.getD j true = false → (∀ e ∈ oj.after, Region.binds .any e = true → e.on ≠ i) → oi.apart ops oj = true) →
      i ∈ Region.ready .any ops L → YieldsIf P ops S oi v a → S w →
      AnyS P ops Q S nk k (L.setIfInBounds i true) (a.put oi.dst v) w → AnyS P ops Q S nk (k + 1) L a w := by
  intro k
  induction k with
  | zero =>
    intro L a w _ hr hy hS H
    refine ⟨fun h => absurd hr (by rw [h]; exact List.not_mem_nil), fun j hj => ?_⟩
    by_cases hji : j = i
    · rw [hji] at hj ⊢
      exact hy.wpOp hi hS ⟨fun _ => hS, H⟩
    · have h9 := ready_mono hj hji
      rw [H.1] at h9
      exact absurd h9 List.not_mem_nil
  | succ k ih =>
    intro L a w hfree hr hy hS H
    refine ⟨fun h => absurd hr (by rw [h]; exact List.not_mem_nil), fun j hj => ?_⟩
    by_cases hji : j = i
    · rw [hji] at hj ⊢
      exact hy.wpOp hi hS ⟨fun _ => hS, H⟩
    · obtain ⟨hjun, oj, hoj, hall⟩ := mem_ready.1 hj
      have hno : ∀ e ∈ oj.after, Region.binds .any e = true → e.on ≠ i := fun e he hbd heq => by
        have g1 := hall e he hbd
        have g0 := (mem_ready.1 hr).1
        rw [heq] at g1
        by_cases hs : i < L.size
        · simp [hs] at g0 g1
          rw [g0] at g1
          exact absurd g1 (by simp)
        · simp [Array.getElem?_eq_none (Nat.le_of_not_lt hs)] at g1
      have hnk : j ∉ nk := fun hjn => by
        have := hb j hjn hji
        simp only [behind, hoj, Option.any_some, Array.any_eq_true] at this
        obtain ⟨x, hx, hx2⟩ := this
        simp only [Bool.and_eq_true, beq_iff_eq] at hx2
        exact hno _ (Array.getElem_mem hx) hx2.1 hx2.2
      have g2 := wpOp_putIf hoj (hfree j oj hoj hji hjun hno) (fun cs b => hsel i oi cs b hi) (fun cs b => hsel j oj cs b hoj) (fun c a w h => absurd h (hQ c _ w)) hy (H.2 j (ready_mono hj hji))
      refine wpOp_mono (fun a' w' h3 => ⟨h3.2.1, ?_⟩) g2
      refine ih (L.setIfInBounds j true) a' w' (fun m om hm hmi hun hnm => ?_) (ready_mono hr (Ne.symm hji)) h3.1 (h3.2.1 hnk) ?_
      · refine hfree m om hm hmi ?_ hnm
        by_cases hjm : j = m
        · rw [← hjm]; exact hjun
        · rw [getD_set_ne true hjm] at hun; exact hun
      · rw [Array.setIfInBounds_comm _ _ hji]
        exact h3.2.2
end

/-- no panic is let out -/
def calm (Q : Post) : Post
  | .panic _, _, _ => False
  | e, a, w => Q e a w
def Drn (P : Program) (ops : Array Oper) (Q : Post) (n : Nat) (Hq : List Ent) (nk : List Nat) (k : Nat) (L : Array Bool) (F : Frm) (H : List Ent) : Prop :=
  ∀ a w, Ok F n a → HeapOk H w → AnyS P ops (calm Q) (HeapOk Hq) nk k L a w
section
variable {P : Program} {ops : Array Oper} {Q : Post} {n : Nat} {Hq : List Ent} {nk : List Nat} {k : Nat} {L : Array Bool} {F : Frm} {H : List Ent}
theorem cod_drawn {id : Nat} {l : List Oper} (Hq : List Ent) (nk : List Nat) (hm : P.follows .mixedOrders = true) (h : Drn P l.toArray Q n Hq nk l.length (Array.replicate l.length false) F H) : Cod P Q n (.region id l.toArray true) F H := fun a w ha hw => by
  have h1 := h a _ ha hw.drew
  have h2 := AnyS.any _ _ _ _ h1
  refine wp_mono (wp_region_any hm (Q := calm Q) (by simpa using h2)) ?_
  intro e a w hq
  cases e <;> first | exact hq | exact hq.elim
def sel : List Nat → List Ent → List Ent
  | [], _ => []
  | i :: l, H => match H[i]? with
    | some e => e :: sel l H
    | none => sel l H
theorem cod_drawn_sel {id : Nat} {l : List Oper} {Hq : List Ent} (is nk : List Nat) (hq : sel is H = Hq) (hm : P.follows .mixedOrders = true) (h : Drn P l.toArray Q n Hq nk l.length (Array.replicate l.length false) F H) : Cod P Q n (.region id l.toArray true) F H := cod_drawn Hq nk hm h
theorem drn_done (hr : Region.ready .any ops L = []) (h : Pst Q .normal n F H) : Drn P ops Q n Hq nk k L F H := fun a w ha hw => by
  have h1 : calm Q .normal a w := h a w ha hw
  cases k with
  | zero => exact ⟨hr, h1⟩
  | succ k => exact ⟨fun _ => h1, fun i hi => absurd hi (by rw [hr]; exact List.not_mem_nil)⟩
/-- what the take of number i wants of the region alone -/
def mayTake (ops : Array Oper) (nk : List Nat) (L : Array Bool) (i : Nat) : Bool :=
  Region.noSelect ops && Region.free .any ops L i && (Region.ready .any ops L).contains i && nk.all fun j => j == i || behind ops i j
theorem drn_take_gen {i : Nat} {o : Oper} {v : Value} (hi : ops[i]? = some o) (hb : mayTake ops nk L i = true) (hs : HSub H Hq) (hd : fits n o.dst = true)
    (hy : ∀ a, Ok F n a → YieldsIf P ops (HeapOk Hq) o v a) (h : Drn P ops Q n Hq nk k (L.setIfInBounds i true) (upd F o.dst v) H) : Drn P ops Q n Hq nk (k + 1) L F H := fun a w ha hw => by
  simp only [mayTake, Bool.and_eq_true, List.contains_iff_mem, List.all_eq_true, Bool.or_eq_true, beq_iff_eq] at hb
  obtain ⟨⟨⟨h1, h2⟩, h3⟩, h4⟩ := hb
  exact anyS_first hi (Region.noSelect_spec h1) (fun c a w h => h) (fun j hj hne => (h4 j hj).resolve_left hne) k L a w (Region.free_spec hi h2) h3 (hy a ha) (hs w hw) (h _ w (ha.put hd) hw)
theorem drn_take (i : Nat) {o : Oper} {v : Value} (hi : ops[i]? = some o) (hg : Wtd ops F o) (hb : mayTake ops nk L i = true) (hs : HSub H Hq) (hd : fits n o.dst = true) (hq : Qt P n o F Hq v)
    (h : Drn P ops Q n Hq nk k (L.setIfInBounds i true) (upd F o.dst v) H) : Drn P ops Q n Hq nk (k + 1) L F H :=
  drn_take_gen hi hb hs hd (fun a ha => .inl ⟨hg.wanted ha, fun w hw => hq a w ha hw⟩) h
theorem drn_take_off (i : Nat) {o : Oper} {j t : Nat} {b : Bool} (hi : ops[i]? = some o) (hg : o.guard = some (j, b)) (hsl : gslot ops j = some t) (hv : look F t = some (.bool (!b))) (hb : mayTake ops nk L i = true) (hs : HSub H Hq) (hd : fits n o.dst = true)
    (h : Drn P ops Q n Hq nk k (L.setIfInBounds i true) (upd F o.dst undef) H) : Drn P ops Q n Hq nk (k + 1) L F H :=
  drn_take_gen hi hb hs hd (fun a ha => .inr ⟨by simp only [Region.wanted, hg, yielded_of ha hsl hv]; cases b <;> simp, rfl⟩) h
/-- a round of the region, operation i -/
def DrnI (P : Program) (ops : Array Oper) (Q : Post) (n : Nat) (Hq : List Ent) (nk : List Nat) (k : Nat) (L : Array Bool) (F : Frm) (H : List Ent) (i : Nat) : Prop :=
  ∀ a w, Ok F n a → HeapOk H w → wpOp P ops (calm Q) i (fun a' w' => (i ∉ nk → HeapOk Hq w') ∧ AnyS P ops (calm Q) (HeapOk Hq) nk k (L.setIfInBounds i true) a' w') a w
theorem drn_i {i : Nat} {o : Oper} {K : Value → List Ent → Prop} (hi : ops[i]? = some o) (hg : Wtd ops F o) (hd : fits n o.dst = true) (h : Opr P n o F H K)
    (hk : ∀ v H', K v H' → (nk.contains i = false → HSub H' Hq) ∧ Drn P ops Q n Hq nk k (L.setIfInBounds i true) (upd F o.dst v) H') : DrnI P ops Q n Hq nk k L F H i := fun a w ha hw => by
  unfold wpOp
  simp only [hi]
  rw [if_pos (hg.wanted ha)]
  refine .inl (h (calm Q) a w _ ha hw fun v H' w' hkv hw' => ?_)
  obtain ⟨h1, h2⟩ := hk v H' hkv
  exact ⟨fun hn => h1 (by simpa using hn) w' hw', h2 _ _ (ha.put hd) hw'⟩
theorem drn_one (i : Nat) (hr : Region.ready .any ops L = [i]) (h : DrnI P ops Q n Hq nk k L F H i) : Drn P ops Q n Hq nk (k + 1) L F H := fun a w ha hw =>
  ⟨fun h0 => absurd (hr ▸ h0) (by simp), fun j hj => by
    rw [hr] at hj
    rw [List.mem_singleton.1 hj]
    exact h a w ha hw⟩
theorem drn_two (i j : Nat) (hr : Region.ready .any ops L = [i, j]) (h : DrnI P ops Q n Hq nk k L F H i) (h' : DrnI P ops Q n Hq nk k L F H j) : Drn P ops Q n Hq nk (k + 1) L F H := fun a w ha hw =>
  ⟨fun h0 => absurd (hr ▸ h0) (by simp), fun m hm => by
    rw [hr] at hm
    rcases List.mem_cons.1 hm with rfl | hm
    · exact h a w ha hw
    · rw [List.mem_singleton.1 hm]
      exact h' a w ha hw⟩
theorem drn_three (i j m : Nat) (hr : Region.ready .any ops L = [i, j, m]) (h : DrnI P ops Q n Hq nk k L F H i) (h' : DrnI P ops Q n Hq nk k L F H j) (h3 : DrnI P ops Q n Hq nk k L F H m) : Drn P ops Q n Hq nk (k + 1) L F H := fun a w ha hw =>
  ⟨fun h0 => absurd (hr ▸ h0) (by simp), fun l hm => by
    rw [hr] at hm
    rcases List.mem_cons.1 hm with rfl | hm
    · exact h a w ha hw
    · rcases List.mem_cons.1 hm with rfl | hm
      · exact h' a w ha hw
      · rw [List.mem_singleton.1 hm]
        exact h3 a w ha hw⟩
theorem drn_take_s (i : Nat) {d : Nat} {op : Op} {ty : TypeId} {ps : String} {af : Array Edge} {g : Option (Nat × Bool)} {v : Value} (hi : ops[i]? = some ⟨some d, op, ty, ps, af, g⟩) (hg : Wtd ops F ⟨some d, op, ty, ps, af, g⟩) (hb : mayTake ops nk L i = true) (hs : HSub H Hq) (hd : Nat.blt d n = true) (hq : Qt P n ⟨some d, op, ty, ps, af, g⟩ F Hq v)
    (h : Drn P ops Q n Hq nk k (L.setIfInBounds i true) ((d, v) :: F) H) : Drn P ops Q n Hq nk (k + 1) L F H := drn_take i hi hg hb hs hd hq h
theorem drn_off_s (i : Nat) {d : Nat} {op : Op} {ty : TypeId} {ps : String} {af : Array Edge} {j t : Nat} {b : Bool} (hi : ops[i]? = some ⟨some d, op, ty, ps, af, some (j, b)⟩) (hsl : gslot ops j = some t) (hv : look F t = some (.bool (!b))) (hb : mayTake ops nk L i = true) (hs : HSub H Hq) (hd : Nat.blt d n = true)
    (h : Drn P ops Q n Hq nk k (L.setIfInBounds i true) ((d, undef) :: F) H) : Drn P ops Q n Hq nk (k + 1) L F H := drn_take_off i hi rfl hsl hv hb hs hd h
theorem drn_s (i : Nat) {d : Nat} {op : Op} {ty : TypeId} {ps : String} {af : Array Edge} {g : Option (Nat × Bool)} {K : Value → List Ent → Prop} (hi : ops[i]? = some ⟨some d, op, ty, ps, af, g⟩) (hg : Wtd ops F ⟨some d, op, ty, ps, af, g⟩) (hd : Nat.blt d n = true) (h : Opr P n ⟨some d, op, ty, ps, af, g⟩ F H K)
    (hk : ∀ v H', K v H' → (nk.contains i = false → HSub H' Hq) ∧ Drn P ops Q n Hq nk k (L.setIfInBounds i true) ((d, v) :: F) H') : DrnI P ops Q n Hq nk k L F H i := drn_i hi hg hd h hk
theorem drn_n (i : Nat) {op : Op} {ty : TypeId} {ps : String} {af : Array Edge} {g : Option (Nat × Bool)} {K : Value → List Ent → Prop} (hi : ops[i]? = some ⟨none, op, ty, ps, af, g⟩) (hg : Wtd ops F ⟨none, op, ty, ps, af, g⟩) (h : Opr P n ⟨none, op, ty, ps, af, g⟩ F H K)
    (hk : ∀ v H', K v H' → (nk.contains i = false → HSub H' Hq) ∧ Drn P ops Q n Hq nk k (L.setIfInBounds i true) F H') : DrnI P ops Q n Hq nk k L F H i := drn_i hi hg rfl h hk
theorem drn_heap {H' : List Ent} (hH : HSub H H') (h : Drn P ops Q n Hq nk k L F H') : Drn P ops Q n Hq nk k L F H := fun a w ha hw => h a w ha (hH w hw)
end
end Go.Proofs.Ytcbpeampjhegcaa.sl
