/-
  The small separation logic: maps from three bytes to whatever fits a variable, that the call itself has made. Nothing here speaks of the program.
-/
import Derived.Test.YtcbpeampjhegcaaDoorSlMap
import Derived.WideKeyPair
import Derived.WideKeyEntry
namespace Go.Proofs.YtcbpeampjhegcaaDoor.sl
open Go.RowKit kit Go.Maps Go.MapKept Go.WideMaps Go.WideShapes Go.WideElems
open Go.ChangeMaps (setBlock heap_setBlock_same heap_setBlock_other)
set_option linter.unusedVariables false

abbrev K3 := UInt8 × UInt8 × UInt8
def keyV (t : K3) : Value := .agg #[.int .u8 (t.1.toNat : Int), .int .u8 (t.2.1.toNat : Int), .int .u8 (t.2.2.toNat : Int)]
theorem keyV_inj {a b : K3} (h : keyV a = keyV b) : a = b := by
  obtain ⟨a1, a2, a3⟩ := a
  obtain ⟨b1, b2, b3⟩ := b
  simp only [keyV, Value.agg.injEq, Array.mk.injEq, List.cons.injEq, Value.int.injEq, true_and, and_true] at h
  obtain ⟨h1, h2, h3⟩ := h
  have e1 : a1 = b1 := UInt8.toNat_inj.1 (by omega)
  have e2 : a2 = b2 := UInt8.toNat_inj.1 (by omega)
  have e3 : a3 = b3 := UInt8.toNat_inj.1 (by omega)
  rw [e1, e2, e3]
/-- the key's type: three bytes -/
class Key3 (P : Program) (k : TypeId) : Prop where
  h : ∃ e, ArrKey P k e 3 ∧ P.underlying e = some (.int .u8)
  sz : ∃ m, P.types.size = m + 1
theorem byte_wf (x : UInt8) : (Lit.int .u8 (x.toNat : Int)).wf = true := by
  have := UInt8.toNat_lt x
  simp [Lit.wf, IntKind.min, IntKind.max, IntKind.signed, IntKind.bits]
  omega
theorem keyOf_three {P : Program} {k : TypeId} (hk : Key3 P k) (t : K3) : ∃ l, keyOf P k (keyV t) = some l := by
  obtain ⟨⟨e, A, he⟩, hsz⟩ := hk
  have hkt := A.keyType hsz
  obtain ⟨m, hm⟩ := hsz
  have w1 := byte_wf t.1
  have w2 := byte_wf t.2.1
  have w3 := byte_wf t.2.2
  refine ⟨.string (keyBytes [.int .u8 (t.1.toNat : Int), .int .u8 (t.2.1.toNat : Int), .int .u8 (t.2.2.toNat : Int)]), ?_⟩
  unfold keyOf keyV
  simp only [A.hu]
  rw [if_pos (by simp [hkt, Value.formed, A.hu, A.size]), hm]
  unfold Program.keyLits
  simp only [A.hu, Value.cells]
  rw [if_pos (by rw [A.size]; rfl), show List.range 3 = [0, 1, 2] from rfl, List.mapM_cons, List.mapM_cons, List.mapM_cons, List.mapM_nil]
  simp [A.one, Program.keyLits, he, w1, w2, w3]
theorem key3_law {P : Program} {k : TypeId} (hk : Key3 P k) : KeyLaw P k := by
  obtain ⟨⟨e, A, he⟩, hsz⟩ := hk
  exact A.law
theorem key3_keyed {P : Program} {k : TypeId} (hk : Key3 P k) : Keyed P k := by
  obtain ⟨⟨e, A, he⟩, hsz⟩ := hk
  exact Keyed.of_law A.law
def rH (v : Value) : Option (DataW Value × List MemPlace) := some (.held v, [])
/-- block b is a map of at most n entries that sends x to g x; z where there is nothing -/
def amap (P : Program) (k : TypeId) (z : Value) (b n : Nat) (g : K3 → Value) : Ent where
  excl := true
  foot j := j = b
  holds w := ∃ D : DataW Value, w.ownsMap P k rH b n D ∧ IsMap D ∧ ∀ x l, keyOf P k (keyV x) = some l → D.atKey l (.held z) = .held (g x)
  lt h hk := by
    subst hk
    obtain ⟨D, h1, _⟩ := h
    exact h1.lt
  keep h _ _ _ _ hb := by
    obtain ⟨D, ⟨es, clock, h1, h2⟩, h3⟩ := h
    exact ⟨D, ⟨es, clock, by rw [hb b rfl]; exact h1, h2⟩, h3⟩
/-- between an entry's making and its store -/
def amid (P : Program) (k T : TypeId) (z : Value) (b n : Nat) (g : K3 → Value) (t : K3) (st : Nat) : Ent where
  excl := true
  foot j := j = b
  holds w := ∃ es1 clock1, w.heap[b]? = some (.map es1 clock1) ∧ ∀ (w2 : World) (val : Value), w2.heap[b]? = some (.map es1 clock1) → ∃ es' clock', (Instr.entryStore T (.map (some b)) (goInt st) val).run P w2 = .ok () (setBlock w2 b (.map es' clock')) ∧ ∀ w3 : World, w3.heap[b]? = some (.map es' clock') → (amap P k z b (n + 1) (fun j => if j = t then val else g j)).holds w3
  lt h hk := by
    subst hk
    obtain ⟨es1, clock1, h1, _⟩ := h
    exact (Array.getElem?_eq_some_iff.1 h1).1
  keep h _ _ _ _ hb := by
    obtain ⟨es1, clock1, h1, h2⟩ := h
    exact ⟨es1, clock1, by rw [hb b rfl]; exact h1, h2⟩
theorem amap_at {P : Program} {k : TypeId} {z : Value} {b n : Nat} {g : K3 → Value} {w w' : World} (h : (amap P k z b n g).holds w) (hb : w'.heap[b]? = w.heap[b]?) : (amap P k z b n g).holds w' := by
  obtain ⟨D, ⟨es, clock, h1, h2⟩, h3⟩ := h
  exact ⟨D, ⟨es, clock, by rw [hb]; exact h1, h2⟩, h3⟩
section
variable {P : Program} {n : Nat} {F : Frm} {H R : List Ent} {o : Oper} {x y z : Operand} {v u z' : Value} {T : TypeId}
theorem opr_makeMapA {k e : TypeId} (ho : o.op = .makeMap T none) : Opr P n o F H fun u H' => ∃ b, u = .map (some b) ∧ H' = amap P k z' b 0 (fun _ => z') :: H := fun Q a w next ha hw hn => by
  unfold Oper.wp
  simp only [execOp, ho, Option.map_none, run_makeMap, Sem.run_bind, Sem.run_pure, Result.andThen_ok, Oper.upon]
  refine hn _ _ _ ⟨w.heap.size, rfl, rfl⟩ (HeapOk.new hw (moved_alloc w _) ?_ fun j hj => ?_)
  · exact ⟨_, World.ownsMap_made w P k _, isMap_empty, fun x l _ => rfl⟩
  · have : j = w.heap.size := hj
    omega
theorem q_lookupA {k e : TypeId} {b m : Nat} {g : K3 → Value} {t : K3} {by' : Nat} {agg : Bool} {sz : Nat} [hm : Mp P T k e] [hk : Key3 P k] [he : Ty P e agg sz by' z'] (ho : o.op = .lookup T x y false) (hx : ev F x = some (.map (some b))) (hy : ev F y = some (keyV t)) (p : Pick (amap P k z' b m g) H R) (hv : g t = v) : Qt P n o F H v := fun a w ha hh => by
  obtain ⟨D, h1, h2, h3⟩ := hh.1 _ p.mem
  obtain ⟨l, hl⟩ := keyOf_three hk t
  obtain ⟨c, ps, hr, hc⟩ := h1.lookup (key3_keyed hk) hm.h (zero_run he w) (zd := .held z') (zp := []) rfl hl
  rw [h3 t l hl] at hc
  simp only [rH, Option.some.injEq, Prod.mk.injEq, DataW.held.injEq] at hc
  obtain ⟨rfl, _⟩ := hc
  subst hv
  simp only [execOp, ho, ha.eval hx, ha.eval hy, hr, Sem.run_bind, Sem.run_pure, Result.andThen_ok]
theorem opr_mapUpdateA {k e : TypeId} {b m : Nat} {g : K3 → Value} {t : K3} [hm : Mp P T k e] [hk : Key3 P k] (ho : o.op = .mapUpdate T x y z) (hx : ev F x = some (.map (some b))) (hy : ev F y = some (keyV t)) (hz : ev F z = some u) (p : Pick (amap P k z' b m g) H R) (hlt : m < maxLen) :
    Opr P n o F H fun v H' => v = undef ∧ H' = amap P k z' b (m + 1) (fun j => if j = t then u else g j) :: R := fun Q a w next ha hh hn => by
  have hh' := hh.perm p.perm
  obtain ⟨D, h1, h2, h3⟩ := hh'.head
  have K := key3_keyed hk
  obtain ⟨l, hl⟩ := keyOf_three hk t
  obtain ⟨w', hr, h4, h5⟩ := h1.update K hm.h hlt hl (d := .held u) (ps := []) rfl
  unfold Oper.wp
  simp only [execOp, ho, ha.eval hx, ha.eval hy, ha.eval hz, hr, Sem.run_bind, Sem.run_pure, Result.andThen_ok, Oper.upon]
  refine hn _ _ _ ⟨rfl, rfl⟩ (HeapOk.upd hh' rfl ⟨h5.os, h5.tape, h5.output, h5.size, fun j hj hne => h5.block j hj (fun e => hne (show j = b from Option.some.inj e))⟩ ⟨_, h4, h2.put _ _, fun j lj hj => ?_⟩ fun j hj => .inl hj)
  show _ = DataW.held (if j = t then u else g j)
  by_cases e : j = t
  · subst e
    rw [hl] at hj
    cases hj
    rw [if_pos rfl, atKey_put_same h2 (K.key hl)]
  · rw [if_neg e, atKey_put_other (fun e2 => e (keyV_inj (K.inj hj (by rw [e2]; exact hl)))), h3 j lj hj]
theorem opr_mapEntryA {k e : TypeId} {b m : Nat} {g : K3 → Value} {t : K3} {by' : Nat} {agg : Bool} {sz : Nat} [hm : Mp P T k e] [hk : Key3 P k] [he : Ty P e agg sz by' z'] (ho : o.op = .mapEntry T x y) (hx : ev F x = some (.map (some b))) (hy : ev F y = some (keyV t)) (p : Pick (amap P k z' b m g) H R) (hv : g t = v) (hlt : m < maxLen) :
    Opr P n o F H fun u H' => ∃ st : Nat, u = .tuple #[v, .int .i64 (st : Int)] ∧ H' = amid P k T z' b m g t st :: R := fun Q a w next ha hh hn => by
  have hh' := hh.perm p.perm
  obtain ⟨D, h1, h2, h3⟩ := hh'.head
  have K := key3_keyed hk
  obtain ⟨l, hl⟩ := keyOf_three hk t
  have h1' := h1
  obtain ⟨es, clock, hb, hF, hs, hD⟩ := h1
  obtain ⟨v0, st, es1, clock1, hr, hw, hst⟩ := entry_then_store (key3_law hk) hm.h (zero_run he) hb hF hl
  have hv0 : v0 = v := by
    have e3 := h3 t l hl
    rw [hD] at e3
    rcases fit_look false K hm.h (zero_run he w) hb hF hl with ⟨_, f1, f2⟩ | ⟨e0, yy, f1, f2, _, f4, f5, _⟩
    · rcases hw with ⟨e1, g1, g2, _⟩ | ⟨_, g2⟩
      · exact absurd g2 (f1 e1 g1)
      · rw [f2] at e3
        rw [g2, ← hv]
        simpa using e3
    · rw [f5] at e3
      rcases hw with ⟨e1, g1, g2, g3⟩ | ⟨g1, _⟩
      · obtain ⟨i0, hi0⟩ := List.getElem?_of_mem f1
        obtain ⟨i1, hi1⟩ := List.getElem?_of_mem g1
        have : i1 = i0 := Decidable.byContradiction fun hne => other_key hF hi0 hi1 hne (by rw [g2, f2])
        subst this
        rw [hi0] at hi1
        cases hi1
        rw [g3, ← hv]
        simp only [rH, Option.some.injEq] at f4
        subst f4
        simpa using e3
      · exact absurd f2 (g1 e0 f1)
  subst hv0
  unfold Oper.wp
  simp only [execOp, ho, ha.eval hx, ha.eval hy, hr, Sem.run_bind, Sem.run_pure, Result.andThen_ok, Oper.upon]
  refine hn _ _ _ ⟨st, rfl, rfl⟩ (HeapOk.upd hh' rfl ⟨rfl, rfl, rfl, by simp [setBlock], fun j hj hne => heap_setBlock_other hb _ (fun e => hne e)⟩ ⟨es1, clock1, heap_setBlock_same hb _, fun w2 val hw2 => ?_⟩ fun j hj => .inl hj)
  obtain ⟨es', clock', q1, q2⟩ := hst w2 val hw2
  refine ⟨es', clock', q1, fun w3 hw3 => ?_⟩
  obtain ⟨w', hr2, h4, h5⟩ := h1'.update K hm.h hlt hl (d := .held val) (ps := []) rfl
  rw [q2] at hr2
  have ew : setBlock w b (.map es' clock') = w' := by simpa using hr2
  have hfin : (amap P k z' b (m + 1) (fun j => if j = t then val else g j)).holds w' := by
    refine ⟨_, h4, h2.put _ _, fun j lj hj => ?_⟩
    show _ = DataW.held (if j = t then val else g j)
    by_cases e : j = t
    · subst e
      rw [hl] at hj
      cases hj
      rw [if_pos rfl, atKey_put_same h2 (K.key hl)]
    · rw [if_neg e, atKey_put_other (fun e2 => e (keyV_inj (K.inj hj (by rw [e2]; exact hl)))), h3 j lj hj]
  refine amap_at hfin ?_
  rw [hw3, ← ew, heap_setBlock_same hb]
theorem opr_entryStoreA {k : TypeId} {b m st : Nat} {g : K3 → Value} {t : K3} (ho : o.op = .entryStore T x y z) (hx : ev F x = some (.map (some b))) (hy : ev F y = some (.int .i64 (st : Int))) (hz : ev F z = some u) (p : Pick (amid P k T z' b m g t st) H R) :
    Opr P n o F H fun v H' => v = undef ∧ H' = amap P k z' b (m + 1) (fun j => if j = t then u else g j) :: R := fun Q a w next ha hh hn => by
  have hh' := hh.perm p.perm
  obtain ⟨es1, clock1, hb, hk⟩ := hh'.head
  obtain ⟨es', clock', hr, hfin⟩ := hk w u hb
  have hr' : (Instr.entryStore T (.map (some b)) (.int .i64 (st : Int)) u).run P w = .ok () (setBlock w b (.map es' clock')) := hr
  unfold Oper.wp
  simp only [execOp, ho, ha.eval hx, ha.eval hy, ha.eval hz, hr', Sem.run_bind, Sem.run_pure, Result.andThen_ok, Oper.upon]
  exact hn _ _ _ ⟨rfl, rfl⟩ (HeapOk.upd hh' rfl ⟨rfl, rfl, rfl, by simp [setBlock], fun j hj hne => heap_setBlock_other hb _ (fun e => hne e)⟩ (hfin _ (heap_setBlock_same hb _)) fun j hj => .inl hj)
/-- three bytes made to an array -/
theorem q_build3 {e by1 by2 : Nat} {z2 z3 va vb vc : Value} (hu : P.underlying T = some (.array 3 e)) [ht : Ty P T true 3 by1 (.agg #[z3, z3, z3])] [he : Ty P e false 1 by2 z2] (ho : o.op = .build T #[(0, x), (1, y), (2, z)]) (hx : ev F x = some va) (hy : ev F y = some vb) (hz : ev F z = some vc) (h1 : va.oneCell' = true) (h2 : vb.oneCell' = true) (h3 : vc.oneCell' = true) : Qt P n o F H (.agg #[va, vb, vc]) := fun a w ha hw => by
  have hf : Instr.fill (fun i => some (i * 1, 1)) #[z3, z3, z3] [(0, va), (1, vb), (2, vc)] = some #[va, vb, vc] := fill_bld (cs := [z3, z3, z3]) (bld_one rfl h1 rfl rfl (bld_one rfl h2 rfl rfl (bld_one rfl h3 rfl rfl .nil)))
  simp only [Nat.mul_one] at hf
  simp [execOp, ho, Instr.build, zero_run ht w, run_underlying hu, sizeOf_run he, ha.eval hx, ha.eval hy, ha.eval hz, Value.cells, hf, Result.andThen]
end
/-! ### many entries as one -/
def bundle (l : List Ent) : Ent where
  excl := true
  foot b := ∃ e ∈ l, e.foot b
  holds w := HeapOk l w ∧ ∀ e ∈ l, e.excl = true
  lt h hk := by
    obtain ⟨e, he, hb⟩ := hk
    exact e.lt (h.1.1 e he) hb
  keep h h1 h2 h3 h4 h5 := ⟨⟨fun e he => e.keep (h.1.1 e he) h1 h2 h3 h4 fun b hb => h5 b ⟨e, he, hb⟩, h.1.2⟩, h.2⟩
theorem bundle_nil (H : List Ent) : HSub H (bundle [] :: H) := fun w hw => HeapOk.new hw (Moved.refl _ _) ⟨⟨fun e he => absurd he List.not_mem_nil, List.Pairwise.nil⟩, fun e he => absurd he List.not_mem_nil⟩ fun b hb => by
  obtain ⟨e, he, _⟩ := hb
  exact absurd he List.not_mem_nil
theorem bundle_in {e : Ent} {l H R S : List Ent} (p : Pick e H R) (q : Pick (bundle l) R S) (he : e.excl = true) : HSub H (bundle (e :: l) :: S) := fun w hw => by
  have h1 : HeapOk (e :: bundle l :: S) w := hw.perm (p.perm.trans (q.perm.cons _))
  have hp := List.pairwise_cons.1 h1.2
  have hb := h1.tail.head
  have hq := List.pairwise_cons.1 hp.2
  refine ⟨fun f hf => ?_, List.pairwise_cons.2 ⟨fun f hf _ b hb1 hb2 => ?_, hq.2⟩⟩
  · rcases List.mem_cons.1 hf with rfl | hf
    · refine ⟨⟨fun f hf => ?_, List.pairwise_cons.2 ⟨fun f hf _ b hb1 hb2 => ?_, hb.1.2⟩⟩, fun f hf => ?_⟩
      · rcases List.mem_cons.1 hf with rfl | hf
        · exact h1.head
        · exact hb.1.1 f hf
      · exact hp.1 _ List.mem_cons_self (.inl he) b hb1 ⟨f, hf, hb2⟩
      · rcases List.mem_cons.1 hf with rfl | hf
        · exact he
        · exact hb.2 f hf
    · exact h1.tail.tail.1 f hf
  · obtain ⟨g, hg, hgb⟩ := hb1
    rcases List.mem_cons.1 hg with rfl | hg
    · exact hp.1 f (List.mem_cons_of_mem _ hf) (.inl he) b hgb hb2
    · exact hq.1 f hf (.inl rfl) b ⟨g, hg, hgb⟩ hb2
theorem bundle_out {e : Ent} {l l' H R : List Ent} (p : Pick (bundle l) H R) (hl : l.Perm (e :: l')) : HSub H (e :: bundle l' :: R) := fun w hw => by
  have h1 : HeapOk (bundle l :: R) w := hw.perm p.perm
  have hb := h1.head
  have h2 : HeapOk (e :: l') w := hb.1.perm hl
  have hx : ∀ f ∈ e :: l', f.excl = true := fun f hf => hb.2 f (hl.mem_iff.2 hf)
  have hp := List.pairwise_cons.1 h1.2
  have hq := List.pairwise_cons.1 h2.2
  have hm : ∀ f ∈ e :: l', ∀ b, f.foot b → (bundle l).foot b := fun f hf b hb => ⟨f, hl.mem_iff.2 hf, hb⟩
  refine ⟨fun f hf => ?_, List.pairwise_cons.2 ⟨fun f hf _ b hb1 hb2 => ?_, List.pairwise_cons.2 ⟨fun f hf _ b hb1 hb2 => ?_, hp.2⟩⟩⟩
  · rcases List.mem_cons.1 hf with rfl | hf
    · exact h2.head
    · rcases List.mem_cons.1 hf with rfl | hf
      · exact ⟨h2.tail, fun f hf => hx f (List.mem_cons_of_mem _ hf)⟩
      · exact h1.tail.1 f hf
  · rcases List.mem_cons.1 hf with rfl | hf
    · obtain ⟨g, hg, hgb⟩ := hb2
      exact hq.1 g hg (.inl (hx e List.mem_cons_self)) b hb1 hgb
    · exact hp.1 f hf (.inl rfl) b (hm e List.mem_cons_self b hb1) hb2
  · obtain ⟨g, hg, hgb⟩ := hb1
    exact hp.1 f hf (.inl rfl) b (hm g (List.mem_cons_of_mem _ hg) b hgb) hb2
end Go.Proofs.YtcbpeampjhegcaaDoor.sl
