/-
  Several texts in one: SlMapA, SlMapI, SlMany, ScanRun, EntryEq, OrderLaw, FrontLaw, SlIx, SlIxI.
-/
import Derived.Test.YtcaefeooneomnaaSlMap
import Derived.WideKeyPair
import Derived.WideKeyEntry
import Derived.Test.YtcaefeooneomnaaScan
import Derived.Test.YtcaefeooneomnaaSlStr3
import Derived.Test.YtcaefeooneomnaaSlCallV
import Derived.Test.YtcaefeooneomnaaTypes
import Derived.Test.YtcaefeooneomnaaSlStr2
/-
  The small separation logic: maps from three bytes to whatever fits a variable, that the call itself has made. Nothing here speaks of the program.
-/
namespace Go.Proofs.Ytcaefeooneomnaa.sl
open Go.RowKit kit Go.Maps Go.MapKept Go.WideMaps Go.WideShapes Go.WideElems
open Go.ChangeMaps (setBlock heap_setBlock_same heap_setBlock_other)
set_option linter.unusedVariables false

abbrev K3 := UInt8 × UInt8 × UInt8
def keyV (t : K3) : Value := .agg #[.int .u8 (t.1.toNat : Int), .int .u8 (t.2.1.toNat : Int), .int .u8 (t.2.2.toNat : Int)]
theorem keyV_inj {a b : K3} (h : keyV a = keyV b) : a = b := by
  obtain ⟨a1, a2, a3⟩ := a
  obtain ⟨b1, b2, b3⟩ := b
  simp only [keyV, Value.agg.injEq, Array.mk.injEq, List.cons.injEq, Value.int.injEq, true_and, and_true] at h
  obtain ⟨h1, h2, h3⟩ := h
  have e1 : a1 = b1 := UInt8.toNat_inj.1 (by omega)
  have e2 : a2 = b2 := UInt8.toNat_inj.1 (by omega)
  have e3 : a3 = b3 := UInt8.toNat_inj.1 (by omega)
  rw [e1, e2, e3]
/-- the key's type: three bytes -/
class Key3 (P : Program) (k : TypeId) : Prop where
  h : ∃ e, ArrKey P k e 3 ∧ P.underlying e = some (.int .u8)
  sz : ∃ m, P.types.size = m + 1
theorem byte_wf (x : UInt8) : (Lit.int .u8 (x.toNat : Int)).wf = true := by
  have := UInt8.toNat_lt x
  simp [Lit.wf, IntKind.min, IntKind.max, IntKind.signed, IntKind.bits]
  omega
theorem keyOf_three {P : Program} {k : TypeId} (hk : Key3 P k) (t : K3) : ∃ l, keyOf P k (keyV t) = some l := by
  obtain ⟨⟨e, A, he⟩, hsz⟩ := hk
  have hkt := A.keyType hsz
  obtain ⟨m, hm⟩ := hsz
  have w1 := byte_wf t.1
  have w2 := byte_wf t.2.1
  have w3 := byte_wf t.2.2
  refine ⟨.string (keyBytes [.int .u8 (t.1.toNat : Int), .int .u8 (t.2.1.toNat : Int), .int .u8 (t.2.2.toNat : Int)]), ?_⟩
  unfold keyOf keyV
  simp only [A.hu]
  rw [if_pos (by simp [hkt, Value.formed, A.hu, A.size]), hm]
  unfold Program.keyLits
  simp only [A.hu, Value.cells]
  rw [if_pos (by rw [A.size]; rfl), show List.range 3 = [0, 1, 2] from rfl, List.mapM_cons, List.mapM_cons, List.mapM_cons, List.mapM_nil]
  simp [A.one, Program.keyLits, he, w1, w2, w3]
theorem key3_law {P : Program} {k : TypeId} (hk : Key3 P k) : KeyLaw P k := by
  obtain ⟨⟨e, A, he⟩, hsz⟩ := hk
  exact A.law
theorem key3_keyed {P : Program} {k : TypeId} (hk : Key3 P k) : Keyed P k := by
  obtain ⟨⟨e, A, he⟩, hsz⟩ := hk
  exact Keyed.of_law A.law
def rH (v : Value) : Option (DataW Value × List MemPlace) := some (.held v, [])
/-- block b is a map of at most n entries that sends x to g x; z where there is nothing -/
def amap (P : Program) (k : TypeId) (z : Value) (b n : Nat) (g : K3 → Value) : Ent where
  excl := true
  foot j := j = b
  holds w := ∃ D : DataW Value, w.ownsMap P k rH b n D ∧ IsMap D ∧ ∀ x l, keyOf P k (keyV x) = some l → D.atKey l (.held z) = .held (g x)
  lt h hk := by
    subst hk
    obtain ⟨D, h1, _⟩ := h
    exact h1.lt
  keep h _ _ _ _ hb := by
    obtain ⟨D, ⟨es, clock, h1, h2⟩, h3⟩ := h
    exact ⟨D, ⟨es, clock, by rw [hb b rfl]; exact h1, h2⟩, h3⟩
/-- between an entry's making and its store -/
def amid (P : Program) (k T : TypeId) (z : Value) (b n : Nat) (g : K3 → Value) (t : K3) (st : Nat) : Ent where
  excl := true
  foot j := j = b
  holds w := ∃ es1 clock1, w.heap[b]? = some (.map es1 clock1) ∧ ∀ (w2 : World) (val : Value), w2.heap[b]? = some (.map es1 clock1) → ∃ es' clock', (Instr.entryStore T (.map (some b)) (goInt st) val).run P w2 = .ok () (setBlock w2 b (.map es' clock')) ∧ ∀ w3 : World, w3.heap[b]? = some (.map es' clock') → (amap P k z b (n + 1) (fun j => if j = t then val else g j)).holds w3
  lt h hk := by
    subst hk
    obtain ⟨es1, clock1, h1, _⟩ := h
    exact (Array.getElem?_eq_some_iff.1 h1).1
  keep h _ _ _ _ hb := by
    obtain ⟨es1, clock1, h1, h2⟩ := h
    exact ⟨es1, clock1, by rw [hb b rfl]; exact h1, h2⟩
theorem amap_at {P : Program} {k : TypeId} {z : Value} {b n : Nat} {g : K3 → Value} {w w' : World} (h : (amap P k z b n g).holds w) (hb : w'.heap[b]? = w.heap[b]?) : (amap P k z b n g).holds w' := by
  obtain ⟨D, ⟨es, clock, h1, h2⟩, h3⟩ := h
  exact ⟨D, ⟨es, clock, by rw [hb]; exact h1, h2⟩, h3⟩
section
variable {P : Program} {n : Nat} {F : Frm} {H R : List Ent} {o : Oper} {x y z : Operand} {v u z' : Value} {T : TypeId}
theorem opr_makeMapA {k e : TypeId} (ho : o.op = .makeMap T none) : Opr P n o F H fun u H' => ∃ b, u = .map (some b) ∧ H' = amap P k z' b 0 (fun _ => z') :: H := fun Q a w next ha hw hn => by
  unfold Oper.wp
  simp only [execOp, ho, Option.map_none, run_makeMap, Sem.run_bind, Sem.run_pure, Result.andThen_ok, Oper.upon]
  refine hn _ _ _ ⟨w.heap.size, rfl, rfl⟩ (HeapOk.new hw (moved_alloc w _) ?_ fun j hj => ?_)
  · exact ⟨_, World.ownsMap_made w P k _, isMap_empty, fun x l _ => rfl⟩
  · have : j = w.heap.size := hj
    omega
theorem q_lookupA {k e : TypeId} {b m : Nat} {g : K3 → Value} {t : K3} {by' : Nat} {agg : Bool} {sz : Nat} [hm : Mp P T k e] [hk : Key3 P k] [he : Ty P e agg sz by' z'] (ho : o.op = .lookup T x y false) (hx : ev F x = some (.map (some b))) (hy : ev F y = some (keyV t)) (p : Pick (amap P k z' b m g) H R) (hv : g t = v) : Qt P n o F H v := fun a w ha hh => by
  obtain ⟨D, h1, h2, h3⟩ := hh.1 _ p.mem
  obtain ⟨l, hl⟩ := keyOf_three hk t
  obtain ⟨c, ps, hr, hc⟩ := h1.lookup (key3_keyed hk) hm.h (zero_run he w) (zd := .held z') (zp := []) rfl hl
  rw [h3 t l hl] at hc
  simp only [rH, Option.some.injEq, Prod.mk.injEq, DataW.held.injEq] at hc
  obtain ⟨rfl, _⟩ := hc
  subst hv
  simp only [execOp, ho, ha.eval hx, ha.eval hy, hr, Sem.run_bind, Sem.run_pure, Result.andThen_ok]
theorem opr_mapUpdateA {k e : TypeId} {b m : Nat} {g : K3 → Value} {t : K3} [hm : Mp P T k e] [hk : Key3 P k] (ho : o.op = .mapUpdate T x y z) (hx : ev F x = some (.map (some b))) (hy : ev F y = some (keyV t)) (hz : ev F z = some u) (p : Pick (amap P k z' b m g) H R) (hlt : m < maxLen) :
    Opr P n o F H fun v H' => v = undef ∧ H' = amap P k z' b (m + 1) (fun j => if j = t then u else g j) :: R := fun Q a w next ha hh hn => by
  have hh' := hh.perm p.perm
  obtain ⟨D, h1, h2, h3⟩ := hh'.head
  have K := key3_keyed hk
  obtain ⟨l, hl⟩ := keyOf_three hk t
  obtain ⟨w', hr, h4, h5⟩ := h1.update K hm.h hlt hl (d := .held u) (ps := []) rfl
  unfold Oper.wp
  simp only [execOp, ho, ha.eval hx, ha.eval hy, ha.eval hz, hr, Sem.run_bind, Sem.run_pure, Result.andThen_ok, Oper.upon]
  refine hn _ _ _ ⟨rfl, rfl⟩ (HeapOk.upd hh' rfl ⟨h5.os, h5.tape, h5.output, h5.size, fun j hj hne => h5.block j hj (fun e => hne (show j = b from Option.some.inj e))⟩ ⟨_, h4, h2.put _ _, fun j lj hj => ?_⟩ fun j hj => .inl hj)
  show _ = DataW.held (if j = t then u else g j)
  by_cases e : j = t
  · subst e
    rw [hl] at hj
    cases hj
    rw [if_pos rfl, atKey_put_same h2 (K.key hl)]
  · rw [if_neg e, atKey_put_other (fun e2 => e (keyV_inj (K.inj hj (by rw [e2]; exact hl)))), h3 j lj hj]
theorem opr_mapEntryA {k e : TypeId} {b m : Nat} {g : K3 → Value} {t : K3} {by' : Nat} {agg : Bool} {sz : Nat} [hm : Mp P T k e] [hk : Key3 P k] [he : Ty P e agg sz by' z'] (ho : o.op = .mapEntry T x y) (hx : ev F x = some (.map (some b))) (hy : ev F y = some (keyV t)) (p : Pick (amap P k z' b m g) H R) (hv : g t = v) (hlt : m < maxLen) :
    Opr P n o F H fun u H' => ∃ st : Nat, u = .tuple #[v, .int .i64 (st : Int)] ∧ H' = amid P k T z' b m g t st :: R := fun Q a w next ha hh hn => by
  have hh' := hh.perm p.perm
  obtain ⟨D, h1, h2, h3⟩ := hh'.head
  have K := key3_keyed hk
  obtain ⟨l, hl⟩ := keyOf_three hk t
  have h1' := h1
  obtain ⟨es, clock, hb, hF, hs, hD⟩ := h1
  obtain ⟨v0, st, es1, clock1, hr, hw, hst⟩ := entry_then_store (key3_law hk) hm.h (zero_run he) hb hF hl
  have hv0 : v0 = v := by
    have e3 := h3 t l hl
    rw [hD] at e3
    rcases fit_look false K hm.h (zero_run he w) hb hF hl with ⟨_, f1, f2⟩ | ⟨e0, yy, f1, f2, _, f4, f5, _⟩
    · rcases hw with ⟨e1, g1, g2, _⟩ | ⟨_, g2⟩
      · exact absurd g2 (f1 e1 g1)
      · rw [f2] at e3
        rw [g2, ← hv]
        simpa using e3
    · rw [f5] at e3
      rcases hw with ⟨e1, g1, g2, g3⟩ | ⟨g1, _⟩
      · obtain ⟨i0, hi0⟩ := List.getElem?_of_mem f1
        obtain ⟨i1, hi1⟩ := List.getElem?_of_mem g1
        have : i1 = i0 := Decidable.byContradiction fun hne => other_key hF hi0 hi1 hne (by rw [g2, f2])
        subst this
        rw [hi0] at hi1
        cases hi1
        rw [g3, ← hv]
        simp only [rH, Option.some.injEq] at f4
        subst f4
        simpa using e3
      · exact absurd f2 (g1 e0 f1)
  subst hv0
  unfold Oper.wp
  simp only [execOp, ho, ha.eval hx, ha.eval hy, hr, Sem.run_bind, Sem.run_pure, Result.andThen_ok, Oper.upon]
  refine hn _ _ _ ⟨st, rfl, rfl⟩ (HeapOk.upd hh' rfl ⟨rfl, rfl, rfl, by simp [setBlock], fun j hj hne => heap_setBlock_other hb _ (fun e => hne e)⟩ ⟨es1, clock1, heap_setBlock_same hb _, fun w2 val hw2 => ?_⟩ fun j hj => .inl hj)
  obtain ⟨es', clock', q1, q2⟩ := hst w2 val hw2
  refine ⟨es', clock', q1, fun w3 hw3 => ?_⟩
  obtain ⟨w', hr2, h4, h5⟩ := h1'.update K hm.h hlt hl (d := .held val) (ps := []) rfl
  rw [q2] at hr2
  have ew : setBlock w b (.map es' clock') = w' := by simpa using hr2
  have hfin : (amap P k z' b (m + 1) (fun j => if j = t then val else g j)).holds w' := by
    refine ⟨_, h4, h2.put _ _, fun j lj hj => ?_⟩
    show _ = DataW.held (if j = t then val else g j)
    by_cases e : j = t
    · subst e
      rw [hl] at hj
      cases hj
      rw [if_pos rfl, atKey_put_same h2 (K.key hl)]
    · rw [if_neg e, atKey_put_other (fun e2 => e (keyV_inj (K.inj hj (by rw [e2]; exact hl)))), h3 j lj hj]
  refine amap_at hfin ?_
  rw [hw3, ← ew, heap_setBlock_same hb]
theorem opr_entryStoreA {k : TypeId} {b m st : Nat} {g : K3 → Value} {t : K3} (ho : o.op = .entryStore T x y z) (hx : ev F x = some (.map (some b))) (hy : ev F y = some (.int .i64 (st : Int))) (hz : ev F z = some u) (p : Pick (amid P k T z' b m g t st) H R) :
    Opr P n o F H fun v H' => v = undef ∧ H' = amap P k z' b (m + 1) (fun j => if j = t then u else g j) :: R := fun Q a w next ha hh hn => by
  have hh' := hh.perm p.perm
  obtain ⟨es1, clock1, hb, hk⟩ := hh'.head
  obtain ⟨es', clock', hr, hfin⟩ := hk w u hb
  have hr' : (Instr.entryStore T (.map (some b)) (.int .i64 (st : Int)) u).run P w = .ok () (setBlock w b (.map es' clock')) := hr
  unfold Oper.wp
  simp only [execOp, ho, ha.eval hx, ha.eval hy, ha.eval hz, hr', Sem.run_bind, Sem.run_pure, Result.andThen_ok, Oper.upon]
  exact hn _ _ _ ⟨rfl, rfl⟩ (HeapOk.upd hh' rfl ⟨rfl, rfl, rfl, by simp [setBlock], fun j hj hne => heap_setBlock_other hb _ (fun e => hne e)⟩ (hfin _ (heap_setBlock_same hb _)) fun j hj => .inl hj)
/-- three bytes made to an array -/
theorem q_build3 {e by1 by2 : Nat} {z2 z3 va vb vc : Value} (hu : P.underlying T = some (.array 3 e)) [ht : Ty P T true 3 by1 (.agg #[z3, z3, z3])] [he : Ty P e false 1 by2 z2] (ho : o.op = .build T #[(0, x), (1, y), (2, z)]) (hx : ev F x = some va) (hy : ev F y = some vb) (hz : ev F z = some vc) (h1 : va.oneCell' = true) (h2 : vb.oneCell' = true) (h3 : vc.oneCell' = true) : Qt P n o F H (.agg #[va, vb, vc]) := fun a w ha hw => by
  have hf : Instr.fill (fun i => some (i * 1, 1)) #[z3, z3, z3] [(0, va), (1, vb), (2, vc)] = some #[va, vb, vc] := fill_bld (cs := [z3, z3, z3]) (bld_one rfl h1 rfl rfl (bld_one rfl h2 rfl rfl (bld_one rfl h3 rfl rfl .nil)))
  simp only [Nat.mul_one] at hf
  simp [execOp, ho, Instr.build, zero_run ht w, run_underlying hu, sizeOf_run he, ha.eval hx, ha.eval hy, ha.eval hz, Value.cells, hf, Result.andThen]
end
/-! ### many entries as one -/
def bundle (l : List Ent) : Ent where
  excl := true
  foot b := ∃ e ∈ l, e.foot b
  holds w := HeapOk l w ∧ ∀ e ∈ l, e.excl = true
  lt h hk := by
    obtain ⟨e, he, hb⟩ := hk
    exact e.lt (h.1.1 e he) hb
  keep h h1 h2 h3 h4 h5 := ⟨⟨fun e he => e.keep (h.1.1 e he) h1 h2 h3 h4 fun b hb => h5 b ⟨e, he, hb⟩, h.1.2⟩, h.2⟩
theorem bundle_nil (H : List Ent) : HSub H (bundle [] :: H) := fun w hw => HeapOk.new hw (Moved.refl _ _) ⟨⟨fun e he => absurd he List.not_mem_nil, List.Pairwise.nil⟩, fun e he => absurd he List.not_mem_nil⟩ fun b hb => by
  obtain ⟨e, he, _⟩ := hb
  exact absurd he List.not_mem_nil
theorem bundle_in {e : Ent} {l H R S : List Ent} (p : Pick e H R) (q : Pick (bundle l) R S) (he : e.excl = true) : HSub H (bundle (e :: l) :: S) := fun w hw => by
  have h1 : HeapOk (e :: bundle l :: S) w := hw.perm (p.perm.trans (q.perm.cons _))
  have hp := List.pairwise_cons.1 h1.2
  have hb := h1.tail.head
  have hq := List.pairwise_cons.1 hp.2
  refine ⟨fun f hf => ?_, List.pairwise_cons.2 ⟨fun f hf _ b hb1 hb2 => ?_, hq.2⟩⟩
  · rcases List.mem_cons.1 hf with rfl | hf
    · refine ⟨⟨fun f hf => ?_, List.pairwise_cons.2 ⟨fun f hf _ b hb1 hb2 => ?_, hb.1.2⟩⟩, fun f hf => ?_⟩
      · rcases List.mem_cons.1 hf with rfl | hf
        · exact h1.head
        · exact hb.1.1 f hf
      · exact hp.1 _ List.mem_cons_self (.inl he) b hb1 ⟨f, hf, hb2⟩
      · rcases List.mem_cons.1 hf with rfl | hf
        · exact he
        · exact hb.2 f hf
    · exact h1.tail.tail.1 f hf
  · obtain ⟨g, hg, hgb⟩ := hb1
    rcases List.mem_cons.1 hg with rfl | hg
    · exact hp.1 f (List.mem_cons_of_mem _ hf) (.inl he) b hgb hb2
    · exact hq.1 f hf (.inl rfl) b ⟨g, hg, hgb⟩ hb2
theorem bundle_out {e : Ent} {l l' H R : List Ent} (p : Pick (bundle l) H R) (hl : l.Perm (e :: l')) : HSub H (e :: bundle l' :: R) := fun w hw => by
  have h1 : HeapOk (bundle l :: R) w := hw.perm p.perm
  have hb := h1.head
  have h2 : HeapOk (e :: l') w := hb.1.perm hl
  have hx : ∀ f ∈ e :: l', f.excl = true := fun f hf => hb.2 f (hl.mem_iff.2 hf)
  have hp := List.pairwise_cons.1 h1.2
  have hq := List.pairwise_cons.1 h2.2
  have hm : ∀ f ∈ e :: l', ∀ b, f.foot b → (bundle l).foot b := fun f hf b hb => ⟨f, hl.mem_iff.2 hf, hb⟩
  refine ⟨fun f hf => ?_, List.pairwise_cons.2 ⟨fun f hf _ b hb1 hb2 => ?_, List.pairwise_cons.2 ⟨fun f hf _ b hb1 hb2 => ?_, hp.2⟩⟩⟩
  · rcases List.mem_cons.1 hf with rfl | hf
    · exact h2.head
    · rcases List.mem_cons.1 hf with rfl | hf
      · exact ⟨h2.tail, fun f hf => hx f (List.mem_cons_of_mem _ hf)⟩
      · exact h1.tail.1 f hf
  · rcases List.mem_cons.1 hf with rfl | hf
    · obtain ⟨g, hg, hgb⟩ := hb2
      exact hq.1 g hg (.inl (hx e List.mem_cons_self)) b hb1 hgb
    · exact hp.1 f hf (.inl rfl) b (hm e List.mem_cons_self b hb1) hb2
  · obtain ⟨g, hg, hgb⟩ := hb1
    exact hp.1 f hf (.inl rfl) b (hm g (List.mem_cons_of_mem _ hg) b hgb) hb2
end Go.Proofs.Ytcaefeooneomnaa.sl
/-
  The small separation logic: maps from numbers to whatever fits a variable, that the call itself has made; whether an entry is there is told. Nothing here speaks of the program.
-/
namespace Go.Proofs.Ytcaefeooneomnaa.sl
open Go.RowKit kit Go.Maps Go.MapKept
set_option linter.unusedVariables false
def getI (o : Option Value) (zd : DataW Value) : DataW Value := match o with | some v => .held v | none => zd
/-- block b is a map of at most n entries that sends x to g x -/
def nmap (P : Program) (k : TypeId) (b n : Nat) (g : Int → Option Value) : Ent where
  excl := true
  foot j := j = b
  holds w := ∃ D : DataW Value, w.ownsMap P k rH b n D ∧ IsMap D ∧ ∀ x, okI x → ∀ zd, D.atKey (.int .i64 x) zd = getI (g x) zd
  lt h hk := by
    subst hk
    obtain ⟨D, h1, _⟩ := h
    exact h1.lt
  keep h _ _ _ _ hb := by
    obtain ⟨D, ⟨es, clock, h1, h2⟩, h3⟩ := h
    exact ⟨D, ⟨es, clock, by rw [hb b rfl]; exact h1, h2⟩, h3⟩
section
variable {P : Program} {n : Nat} {F : Frm} {H R : List Ent} {o : Oper} {x y z : Operand} {v u z' : Value} {T : TypeId}
theorem opr_makeMapN {k e : TypeId} [hm : Mp P T k e] (ho : o.op = .makeMap T none) : Opr P n o F H fun u H' => ∃ b, u = .map (some b) ∧ H' = nmap P k b 0 (fun _ => none) :: H := fun Q a w next ha hw hn => by
  unfold Oper.wp
  simp only [execOp, ho, Option.map_none, run_makeMap, Sem.run_bind, Sem.run_pure, Result.andThen_ok, Oper.upon]
  refine hn _ _ _ ⟨w.heap.size, rfl, rfl⟩ (HeapOk.new hw (moved_alloc w _) ?_ fun j hj => ?_)
  · exact ⟨_, World.ownsMap_made w P k _, isMap_empty, fun x _ zd => rfl⟩
  · have : j = w.heap.size := hj
    omega
theorem q_lookupN {k e : TypeId} {b m : Nat} {g : Int → Option Value} {key : Int} {by' : Nat} {agg : Bool} {sz : Nat} [hm : Mp P T k e] [hk : IntK P k .i64] [he : Ty P e agg sz by' z'] (ho : o.op = .lookup T x y true) (hx : ev F x = some (.map (some b))) (hy : ev F y = some (.int .i64 key)) (p : Pick (nmap P k b m g) H R) (hw : okI key)
    (hv : v = match g key with | some u => .tuple #[u, .bool true] | none => .tuple #[z', .bool false]) : Qt P n o F H v := fun a w ha hh => by
  obtain ⟨D, ⟨es, clock, hb, hF, hs, hD⟩, h2, h3⟩ := hh.1 _ p.mem
  subst hv
  have hr : (Instr.lookup T (.map (some b)) (.int .i64 key) true).run P w = .ok (match g key with | some u => .tuple #[u, .bool true] | none => .tuple #[z', .bool false]) w := by
    rcases fit_look true (int_keyed hk.h) hm.h (zero_run he w) hb hF (keyOf_int_mk hk.h hw) with ⟨r1, _, r2⟩ | ⟨e0, yy, _, _, r1, r2, r3, _⟩
    · have e1 := h3 key hw (.held z')
      have e2 := h3 key hw (.lit (.bool true))
      rw [hD, r2] at e1 e2
      cases hg : g key with
      | none => exact r1
      | some u =>
        rw [hg] at e1 e2
        simp [getI] at e1 e2
    · have e1 := h3 key hw (.held z')
      have e2 := h3 key hw (.lit (.bool true))
      rw [hD, r3] at e1 e2
      simp only [rH, Option.some.injEq] at r2
      subst r2
      cases hg : g key with
      | none =>
        rw [hg] at e1 e2
        simp [getI] at e1 e2
      | some u =>
        rw [hg] at e1
        simp [getI] at e1
        subst e1
        exact r1
  simp only [execOp, ho, ha.eval hx, ha.eval hy, hr, Sem.run_bind, Sem.run_pure, Result.andThen_ok]
theorem opr_mapUpdateN {k e : TypeId} {b m : Nat} {g : Int → Option Value} {key : Int} [hm : Mp P T k e] [hk : IntK P k .i64] (ho : o.op = .mapUpdate T x y z) (hx : ev F x = some (.map (some b))) (hy : ev F y = some (.int .i64 key)) (hz : ev F z = some u) (p : Pick (nmap P k b m g) H R) (hw : okI key) (hlt : m < maxLen) :
    Opr P n o F H fun v H' => v = undef ∧ H' = nmap P k b (m + 1) (fun j => if j = key then some u else g j) :: R := fun Q a w next ha hh hn => by
  have hh' := hh.perm p.perm
  obtain ⟨D, h1, h2, h3⟩ := hh'.head
  obtain ⟨w', hr, h4, h5⟩ := h1.update (int_keyed hk.h) hm.h hlt (keyOf_int_mk hk.h hw) (d := .held u) (ps := []) rfl
  unfold Oper.wp
  simp only [execOp, ho, ha.eval hx, ha.eval hy, ha.eval hz, hr, Sem.run_bind, Sem.run_pure, Result.andThen_ok, Oper.upon]
  refine hn _ _ _ ⟨rfl, rfl⟩ (HeapOk.upd hh' rfl ⟨h5.os, h5.tape, h5.output, h5.size, fun j hj hne => h5.block j hj (fun e => hne (show j = b from Option.some.inj e))⟩ ⟨_, h4, h2.put _ _, fun j hj zd => ?_⟩ fun j hj => .inl hj)
  show _ = getI (if j = key then some u else g j) zd
  by_cases e : j = key
  · subst e
    rw [if_pos rfl, atKey_put_same h2 (by trivial)]
    rfl
  · rw [if_neg e, atKey_put_other (by simpa using e), h3 j hj]
end
/-- 's[:k:k]' -/
theorem q_slice_hm {P : Program} {n : Nat} {F : Frm} {H : List Ent} {o : Oper} {x y y2 : Operand} {z' : Value} {t e sz by' N c m : Nat} {agg : Bool} {q : Option Addr} {k k2 : IntKind} {j j2 : Int} [ht : Sli P t e] [hs : Ty P e agg sz by' z'] (ho : o.op = .slice t x none (some y) (some y2)) (hx : ev F x = some (.slice q N c)) (hy : ev F y = some (.int k j)) (hy2 : ev F y2 = some (.int k2 j2)) (hj : j = (m : Int)) (hj2 : j2 = (m : Int)) (hm : m ≤ c) : Qt P n o F H (.slice q m m) := fun a w ha hw => by
  subst hj
  subst hj2
  have he : P.elem t = e := by simp [Program.elem, ht.h]
  have hu : P.underlying t = some (.slice (P.elem t)) := by rw [he]; exact ht.h
  have h1 := run_slice_hm (P := P) w t q N c hu k k2 (m : Int) (m : Int) (by omega) (by omega) (by omega)
  rw [he, sizeOf_run hs] at h1
  have hv : sliced q 0 ((m : Int)).toNat ((m : Int)).toNat sz = .slice q m m := by
    simp [sliced, Addr.add]
  simp only [Result.andThen_ok, hv] at h1
  simp only [execOp, ho, Option.map_some, Option.map_none, ha.eval hx, ha.eval hy, ha.eval hy2, Sem.run_bind, Sem.run_pure, run_sliceAt_slice w t _ _ _ _ hu, h1, Result.andThen_ok]
theorem run_ownc {P : Program} {ops : Array Oper} {Q : Post} {n : Nat} {F : Frm} {H R : List Ent} {l : List Oper} {q : Option Addr} {e sz m c : Nat} {xs : List Value} (p : Pick (own (.slice q m c) e sz m xs) H R) (k : m ≤ c → Run P ops Q n l F H) : Run P ops Q n l F H := fun a w ha hw => by
  have hw' := hw.perm p.perm
  have h : w.ownsRow 0 e sz (.slice q m c) m xs := hw'.head
  refine k ?_ a w ha hw
  rcases h.2 with ⟨h1, h2⟩ | ⟨g, cap, cur, h1, _, _, h2, _⟩
  · omega
  · cases h1
    exact h2
end Go.Proofs.Ytcaefeooneomnaa.sl
/-
  The small separation logic: many slices that are only read, as one entry. Nothing here speaks of the program.
-/
namespace Go.Proofs.Ytcaefeooneomnaa.sl
open Go.RowKit kit
set_option linter.unusedVariables false
abbrev Lots := List (Value × List (List Value))
def many (sz : Nat) (l : Lots) : Ent where
  excl := false
  foot b := ∃ p ∈ l, (sl sz p.1 p.2).foot b
  holds w := ∀ p ∈ l, (sl sz p.1 p.2).holds w
  lt h hk := by
    obtain ⟨p, hp, hb⟩ := hk
    exact (sl sz p.1 p.2).lt (h p hp) hb
  keep h h1 h2 h3 h4 h5 := fun p hp => (sl sz p.1 p.2).keep (h p hp) h1 h2 h3 h4 fun b hb => h5 b ⟨p, hp, hb⟩
theorem view_many {S R : List Ent} {sz : Nat} {l : Lots} {v : Value} {rows : List (List Value)} (p : Pick (many sz l) S R) (h : (v, rows) ∈ l) : View S (sl sz v rows) :=
  ⟨rfl, fun w hw => hw.1 _ p.mem _ h, fun b hb => ⟨_, p.mem, (v, rows), h, hb⟩⟩
theorem many_sub {S R : List Ent} {sz : Nat} {l l' : Lots} (p : Pick (many sz l) S R) (h : ∀ x ∈ l', x ∈ l) : View S (many sz l') :=
  ⟨rfl, fun w hw x hx => hw.1 _ p.mem x (h x hx), fun b hb => by
    obtain ⟨x, hx, hb⟩ := hb
    exact ⟨_, p.mem, x, h x hx, hb⟩⟩
/-- a slice of the many, beside them -/
theorem many_out {H R : List Ent} {sz : Nat} {l : Lots} {v : Value} {rows : List (List Value)} (p : Pick (many sz l) H R) (h : (v, rows) ∈ l) : HSub H (sl sz v rows :: H) := fun w hw =>
  ⟨fun e he => by
    rcases List.mem_cons.1 he with rfl | he
    · exact hw.1 _ p.mem _ h
    · exact hw.1 e he, List.pairwise_cons.2 ⟨fun f hf hx b hb1 hb2 => by
      rcases hx with hx | hx
      · cases hx
      · have h1 := hw.perm p.perm
        have h2 := p.perm.mem_iff.1 hf
        rcases List.mem_cons.1 h2 with rfl | h2
        · cases hx
        · exact (List.pairwise_cons.1 h1.2).1 f h2 (.inr hx) b ⟨_, h, hb1⟩ hb2, hw.2⟩⟩
/-- rows of one's own that are lent as many -/
theorem view_bundle {S R : List Ent} {sz e : Nat} {β α : Type} {tab : List β} {rw : β → Ent} {vv : β → Value} {xs : β → List α} {f : α → List Value} (p : Pick (bundle (tab.map rw)) S R) (hr : ∀ r, rw r = own (vv r) e sz (xs r).length (flat f (xs r))) (hf : ∀ y, (f y).length = sz) (l : List β) (hl : ∀ r ∈ l, r ∈ tab) : View S (many sz (l.map fun r => (vv r, (xs r).map f))) :=
  ⟨rfl, fun w hw x hx => by
    obtain ⟨r, hr1, rfl⟩ := List.mem_map.1 hx
    have h1 : HeapOk (tab.map rw) w := (hw.1 _ p.mem).1
    have h2 := h1.1 (rw r) (List.mem_map_of_mem (hl r hr1))
    rw [hr] at h2
    exact own_sliceN hf rfl h2, fun b hb => by
    obtain ⟨x, hx, hb⟩ := hb
    obtain ⟨r, hr1, rfl⟩ := List.mem_map.1 hx
    exact ⟨_, p.mem, rw r, List.mem_map_of_mem (hl r hr1), by rw [hr]; exact hb.2⟩⟩
/-- the front of one's own row, its room cut -/
theorem view_cut {S R : List Ent} {e sz m k c : Nat} {α : Type} {f : α → List Value} {ys : List α} {q : Option Addr} (p : Pick (own (.slice q m c) e sz m (flat f ys)) S R) (hf : ∀ y, (f y).length = sz) (hm : m = ys.length) (hk : k ≤ m) : View S (sl sz (.slice q k k) ((ys.take k).map f)) :=
  ⟨rfl, fun w hw => by
    have h1 : SliceAt w sz (.slice q k c) ((ys.take k).map f) := sl_part (own_sliceN hf hm (hw.1 _ p.mem)) (by omega)
    rcases h1 with ⟨h0, h2⟩ | ⟨b, off, cap, hv, h3, h4, h5, h6, h7⟩
    · refine .inl ⟨h0, ?_⟩
      have hk0 : k = 0 := by
        have := congrArg List.length h0
        rw [List.length_map, List.length_take, List.length_nil] at this
        omega
      subst hk0
      rcases h2 with h2 | ⟨a, cap, h2⟩
      · cases h2; exact .inl rfl
      · cases h2; exact .inr ⟨_, _, rfl⟩
    · have hlen : ((ys.take k).map f).length = k := by simp; omega
      rw [hlen] at hv
      cases hv
      exact .inr ⟨b, off, k, by rw [hlen], by rw [hlen]; exact Nat.le_refl _, by rw [hlen] at h3; omega, h5, h6, h7⟩, fun b hb => ⟨_, p.mem, by
    have h2 := hb.2
    cases q <;> exact h2⟩⟩
/-- the front of one's own row -/
theorem view_head {S R : List Ent} {e sz m k c : Nat} {α : Type} {f : α → List Value} {ys : List α} {q : Option Addr} (p : Pick (own (.slice q m c) e sz m (flat f ys)) S R) (hf : ∀ y, (f y).length = sz) (hm : m = ys.length) (hk : k ≤ m) : View S (sl sz (.slice q k c) ((ys.take k).map f)) :=
  ⟨rfl, fun w hw => sl_part (own_sliceN hf hm (hw.1 _ p.mem)) (by omega), fun b hb => ⟨_, p.mem, by
    have h2 := hb.2
    cases q <;> exact h2⟩⟩
end Go.Proofs.Ytcaefeooneomnaa.sl
/-
  scan.Run: what it answers, and the walk.
-/
namespace Go.Proofs.Ytcaefeooneomnaa.use
open Go.RowKit kit sl Go.Proofs.Ytcaefeooneomnaa.seal Go.Proofs.Ytcaefeooneomnaa.disk Go.Proofs.Ytcaefeooneomnaa.blob
set_option linter.unusedVariables false
/-- a right cell of the log as the map holds it: number, cell, blobs, last; the row of its blobs -/
abbrev LRow := Int × Nat × List Blob × Bool × Option Addr × Nat
def fEn (r : LRow) : List Value := [.int .i64 (r.2.1 : Int), .slice r.2.2.2.2.1 r.2.2.1.length r.2.2.2.2.2, .bool r.2.2.2.1]
theorem one_fEn : ∀ y, ∀ u ∈ fEn y, u.oneCell' = true := fun y u h => by
  simp only [fEn, List.mem_cons, List.not_mem_nil, or_false] at h
  rcases h with rfl | rfl | rfl <;> rfl
def rowL (r : LRow) : Ent := own (.slice r.2.2.2.2.1 r.2.2.1.length r.2.2.2.2.2) 28 4 r.2.2.1.length (flat fBl r.2.2.1)
theorem rowL_x (r : LRow) : (rowL r).excl = true := rfl
def lookL (tab : List LRow) (x : Int) : Option Value := (tab.find? fun r => r.1 == x).map fun r => .agg (fEn r).toArray
def stripL (r : LRow) : Nat × Int × List Blob × Bool := (r.2.1, r.1, r.2.2.1, r.2.2.2.1)
/-- the right cells of the log from m on -/
def scanF (cs : Cells) (ps : Waits) (m : Nat) : List (Nat × Int × List Blob × Bool) := (List.range' m (cs.length - m)).filterMap fun i => (logF cs ps i).map fun t => (i, t)
theorem scan_end (cs : Cells) (ps : Waits) {m : Nat} (h : cs.length ≤ m) : scanF cs ps m = [] := by
  unfold scanF
  rw [show cs.length - m = 0 by omega]
  rfl
theorem scan_some {cs : Cells} {ps : Waits} {m : Nat} {t : Int × List Blob × Bool} (h : m < cs.length) (hl : logF cs ps m = some t) : scanF cs ps m = (m, t) :: scanF cs ps (m + 1) := by
  unfold scanF
  rw [show cs.length - m = (cs.length - (m + 1)) + 1 by omega, List.range'_succ, List.filterMap_cons, hl]
  rfl
theorem scan_none {cs : Cells} {ps : Waits} {m : Nat} (h : m < cs.length) (hl : logF cs ps m = none) : scanF cs ps m = scanF cs ps (m + 1) := by
  unfold scanF
  rw [show cs.length - m = (cs.length - (m + 1)) + 1 by omega, List.range'_succ, List.filterMap_cons, hl]
  rfl
/-- the greatest number -/
def topF (after : Int) : List LRow → Int
  | [] => after
  | r :: l => max (topF after l) r.1
/-- where the last one ends that has last -/
def wholeG : List LRow → Nat × Nat → Nat × Nat := fun l p => l.foldl (fun p r => (p.1 + 1, if r.2.2.2.1 then p.1 + 1 else p.2)) p
def wholeF (l : List LRow) : Nat := (wholeG l (0, 0)).2
theorem wholeG_fst : ∀ (l : List LRow) (p : Nat × Nat), (wholeG l p).1 = p.1 + l.length := by
  intro l
  induction l with
  | nil => intro p; rfl
  | cons r l ih =>
    intro p
    show (wholeG l _).1 = _
    rw [ih, List.length_cons]
    dsimp only
    omega
theorem whole_add (l : List LRow) (r : LRow) : wholeF (l ++ [r]) = if r.2.2.2.1 then l.length + 1 else wholeF l := by
  unfold wholeF
  have : wholeG (l ++ [r]) (0, 0) = ((wholeG l (0, 0)).1 + 1, if r.2.2.2.1 then (wholeG l (0, 0)).1 + 1 else (wholeG l (0, 0)).2) := by
    unfold wholeG
    rw [List.foldl_append]
    rfl
  rw [this]
  dsimp only
  rw [wholeG_fst, Nat.zero_add]
theorem whole_le (l : List LRow) : wholeF l ≤ l.length := by
  have : ∀ (l : List LRow) (p : Nat × Nat), p.2 ≤ p.1 → (wholeG l p).2 ≤ (wholeG l p).1 := by
    intro l
    induction l with
    | nil => intro p h; exact h
    | cons r l ih =>
      intro p h
      refine ih _ ?_
      show (if r.2.2.2.1 = true then p.1 + 1 else p.2) ≤ p.1 + 1
      split <;> omega
  have h := this l (0, 0) (Nat.le_refl _)
  rw [wholeG_fst, Nat.zero_add] at h
  exact h
/-- the log from 'after' on -/
def Chain (tab : List LRow) (after : Int) (outs : List LRow) : Prop := ∀ (k : Nat) (r : LRow), outs[k]? = some r → tab.find? (fun r => r.1 == after + 1 + (k : Int)) = some r
theorem chain_add {tab : List LRow} {after : Int} {outs : List LRow} {r : LRow} (h : Chain tab after outs) (hr : tab.find? (fun r => r.1 == after + 1 + (outs.length : Int)) = some r) : Chain tab after (outs ++ [r]) := fun k s hs => by
  rcases Nat.lt_trichotomy k outs.length with g | g | g
  · rw [List.getElem?_append_left g] at hs
    exact h k s hs
  · subst g
    rw [List.getElem?_append_right (Nat.le_refl _), Nat.sub_self] at hs
    cases hs
    exact hr
  · rw [List.getElem?_eq_none (by simp; omega)] at hs
    cases hs
theorem log_num {cs : Cells} {ps : Waits} {k : Nat} {n : Int} {zs : List Blob} {b : Bool} (h : logF cs ps k = some (n, zs, b)) : 0 ≤ n ∧ n ≤ 2147483647 := by
  unfold logF at h
  split at h
  · rename_i h2
    cases hr : readO (openB (nowL cs ps k)) with
    | none => rw [hr] at h; cases h
    | some y =>
      rw [hr] at h
      simp only [Option.map_some, Option.some.injEq, Prod.mk.injEq] at h
      obtain ⟨rfl, _⟩ := h
      have hz := (Go.Proofs.Ytcaefeooneomnaa.seal.openE_zero h2.1).2.2.2.2
      unfold Go.Proofs.Ytcaefeooneomnaa.seal.sealE at hz
      split at hz
      · cases hz
      · omega
  · cases h
def RunOk (cs : Cells) (ps : Waits) (after : Int) (tab outs : List LRow) : Prop :=
  checkD cs ps = 0 ∧ (0 ≤ after ∧ after ≤ 2147483647) ∧ tab.map stripL = scanF cs ps 2 ∧ Chain tab after outs ∧ tab.find? (fun r => r.1 == after + 1 + (outs.length : Int)) = none
def RunR (cs : Cells) (ps : Waits) (after : Int) (v : Value) (H' : List Ent) : Prop :=
  (∃ tab outs q c, RunOk cs ps after tab outs ∧ v = .tuple #[.slice q (wholeF outs) (wholeF outs), .int .i64 (topF after tab), .int .i64 0] ∧ H' = [own (.slice q outs.length c) 48 3 outs.length (flat fEn outs), bundle (tab.map rowL)]) ∨
  (¬ (checkD cs ps = 0 ∧ 0 ≤ after ∧ after ≤ 2147483647) ∧ ∃ e : Int, e ≠ 0 ∧ v = .tuple #[.slice none 0 0, .int .i64 0, .int .i64 e] ∧ H' = [])
instance {l L : List Ent} [hl : XL L] : XL (bundle l :: L) := ⟨fun g hg => by
  rcases List.mem_cons.1 hg with rfl | hg
  · rfl
  · exact hl.h g hg⟩
instance {cs : Cells} {ps : Waits} {after : Int} : Xcl (RunR cs ps after) := by unfold RunR; infer_instance
theorem ok_num {x : Int} (h1 : -9223372036854775808 ≤ x) (h2 : x ≤ 9223372036854775807) : okI x := by
  simp [okI, Lit.wf, IntKind.min, IntKind.max, IntKind.signed, IntKind.bits]
  omega
theorem look_cons (tab : List LRow) (r : LRow) : (fun x => if x = r.1 then some (.agg (fEn r).toArray) else lookL tab x) = lookL (r :: tab) := by
  funext x
  unfold lookL
  rw [List.find?_cons]
  by_cases h : x = r.1
  · rw [if_pos h, show (r.1 == x) = true by rw [h]; exact beq_self_eq_true _]
    rfl
  · rw [if_neg h, show (r.1 == x) = false by simpa using fun e => h e.symm]
theorem tab_num {cs : Cells} {ps : Waits} {m : Nat} {tab : List LRow} (h : tab.map stripL = scanF cs ps m) : ∀ r ∈ tab, 0 ≤ r.1 ∧ r.1 ≤ 2147483647 := fun r hr => by
  have : stripL r ∈ scanF cs ps m := by rw [← h]; exact List.mem_map_of_mem hr
  unfold scanF at this
  obtain ⟨i, _, hi⟩ := List.mem_filterMap.1 this
  obtain ⟨⟨n, zs, b⟩, h1, h2⟩ := Option.map_eq_some_iff.1 hi
  have h3 := log_num h1
  have : r.1 = n := by
    have := congrArg (fun t => t.2.1) h2
    exact this.symm
  rw [this]
  exact h3
theorem top_bd {after : Int} (ha : 0 ≤ after ∧ after ≤ 2147483647) : ∀ {tab : List LRow}, (∀ r ∈ tab, 0 ≤ r.1 ∧ r.1 ≤ 2147483647) → 0 ≤ topF after tab ∧ topF after tab ≤ 2147483647 := by
  intro tab
  induction tab with
  | nil => intro _; exact ha
  | cons r l ih =>
    intro h
    have h1 := ih fun s hs => h s (List.mem_cons_of_mem _ hs)
    have h2 := h r List.mem_cons_self
    show 0 ≤ max _ _ ∧ max _ _ ≤ _
    omega
attribute [local irreducible] box own sl old bptr eptr Qt Opr Run Cod Pst Drn
instance : IntK Try.prog 3 .i64 := ⟨by kernel_rfl⟩
set_option maxRecDepth 100000 in
set_option maxHeartbeats 8000000 in
theorem run_any (a w : Option Addr) (ca cw : Nat) (cs : Cells) (ps : Waits) (after : Int) (hc : cs.length ≤ maxLen) (hp : ps.length ≤ maxLen) :
    Ct Try.prog 12 [.agg #[.slice a cs.length ca, .slice w ps.length cw], .int .i64 after] [sl 1 (.slice a cs.length ca) (cs.map fS), sl 2 (.slice w ps.length cw) (ps.map fP)] (RunR cs ps after) := by
  have C0 := check_any a w ca cw cs ps hc hp
  have hone := one_fEn
  by_cases hd : checkD cs ps = 0
  · have hgd := good_of hd
    by_cases ha : 0 ≤ after ∧ after ≤ 2147483647
    · have hn1 := hgd.n1
      have R0 : ∀ tab outs, tab.map stripL = scanF cs ps 2 → Chain tab after outs → tab.find? (fun r => r.1 == after + 1 + (outs.length : Int)) = none → RunOk cs ps after tab outs := fun tab outs h1 h2 h3 => ⟨hd, ha, h1, h2, h3⟩
      rw [hd] at C0
      obtain ⟨ha0, ha1⟩ := ha
      (refine spec_enter Try.func12 Try.ntmps12 rfl rfl fun Fr => ?_; dsimp only [List.cons_append, List.nil_append, ini, Nat.reduceAdd])
      (repeat' (first | (apply run_qg 1; (focus rfl); (focus exact wt); (focus rfl); (focus (exact qg1))) | (apply run_qg 2; (focus rfl); (focus exact wt); (focus rfl); (focus (first | exact qg2 | exact qs2))) | (apply run_qg 4; (focus rfl); (focus exact wt); (focus rfl); (focus (first | exact qg4 | exact qs4))) | refine cod_seq ?_ | refine cod_region ?_ | refine run_nil ?_ | refine pst_then ?_ | (apply cod_cond_f; (focus rfl)) | refine cod_skip ?_ | (apply run_osg 8; (focus rfl); (focus exact wt); (focus rfl); (focus (exact opr_box_agg rfl rfl)); (rintro _ _ ⟨b, rfl, rfl⟩)) | (apply run_osg 7; (focus rfl); (focus exact wt); (focus rfl); (focus (exact opr_call_ls (by rfl) (C0 ..) (by rfl) lpa)); (rintro _ _ ⟨rfl, rfl⟩))))
      refine run_os wt rfl (opr_makeMapN rfl) ?_
      rintro _ _ ⟨bm, rfl, rfl⟩
      rw [show (fun _ : Int => (none : Option Value)) = lookL [] from rfl]
      (repeat' (first | (apply run_qg 1; (focus rfl); (focus exact wt); (focus rfl); (focus (exact qg1))) | (apply run_qg 2; (focus rfl); (focus exact wt); (focus rfl); (focus (first | exact qg2 | exact qs2))) | (apply run_qg 3; (focus rfl); (focus exact wt); (focus rfl); (focus (first | exact qg3 | exact qs3))) | (apply run_qg 4; (focus rfl); (focus exact wt); (focus rfl); (focus (first | exact qg4 | exact qs4))) | (apply run_qg 6; (focus rfl); (focus exact wt); (focus rfl); (focus (first | exact qs6 | exact qg6 | exact q_max rfl rfl rfl | exact q_sliceData rfl rfl (by omega) | exact q_sliceDataN rfl rfl | exact q_unsafeStringN rfl rfl rfl | exact q_cap_slice rfl rfl))) | refine cod_seq ?_ | refine cod_region ?_ | refine run_nil ?_ | refine pst_then ?_ | refine cod_block ?_))
      refine cod_heap (H' := bundle (([] : List LRow).map rowL) :: _) (bundle_nil _) ?_
      (refine cod_loop_rw (σ := Nat × Nat × List LRow) (fun x => (x.1 ≤ cs.length ∧ x.2.1 + x.1 ≤ cs.length ∧ (x.1 = cs.length ∨ 2 ≤ x.1)) ∧ x.2.2.map stripL = scanF cs ps x.1) (fun x => [(10, .int .i64 ((x.1 : Int) - 1)), (9, .int .i64 (topF after x.2.2))]) (fun x => [nmap Try.prog 3 bm x.2.1 (lookL x.2.2), bundle (x.2.2.map rowL)]) _ (fun x => x.1) ((cs.length, 0, [])) (by exact ⟨⟨Nat.le_refl _, by dsimp only; omega, .inl rfl⟩, (scan_end cs ps (Nat.le_refl _)).symm⟩) (by exact fsa) (by (first | exact HSub.of_picks_rest (by exact pca))) (fun ⟨m, cnt, tab⟩ ⟨⟨hm, hcnt, hm2⟩, htab⟩ => ?_); dsimp only [List.cons_append, List.nil_append])
      dsimp only at hm hcnt hm2 htab ⊢
      have hnum := tab_num htab
      have htop := top_bd ⟨ha0, ha1⟩ hnum
      rcases Nat.lt_or_ge 2 m with h3 | h3
      · obtain ⟨k, rfl⟩ : ∃ k, m = k + 1 := ⟨m - 1, by omega⟩
        have hk : ((k + 1 : Nat) : Int) - 1 = (k : Int) := by omega
        rw [hk]
        cases hlog : logF cs ps k with
        | none =>
          have C1 := cell_none (a := a) (w := w) (ca := ca) (cw := cw) (by omega) hgd hlog
          (repeat' (first | (apply run_qg 1; (focus rfl); (focus exact wt); (focus rfl); (focus (exact qg1))) | (apply run_qg 2; (focus rfl); (focus exact wt); (focus rfl); (focus (first | exact qg2 | exact qs2))) | (apply run_qg 4; (focus rfl); (focus exact wt); (focus rfl); (focus (first | exact qg4 | exact qs4))) | refine cod_seq ?_ | refine cod_region ?_ | refine run_nil ?_ | refine pst_then ?_ | (apply cod_cond_t; (focus rfl)) | refine cod_block ?_ | refine cod_skip ?_))
          (refine run_os wt rfl (opr_call_l rfl (C1) rfl (by exact lpa)) ?_; rintro _ _ ⟨_, ⟨n, rfl, rfl⟩, rfl⟩; dsimp only [List.cons_append, List.nil_append])
          (repeat' (first | (apply run_qg 1; (focus rfl); (focus exact wt); (focus rfl); (focus (exact qg1))) | (apply run_qg 4; (focus rfl); (focus exact wt); (focus rfl); (focus (first | exact qg4 | exact qs4))) | refine cod_seq ?_ | refine cod_region ?_ | refine run_nil ?_ | refine pst_then ?_ | (apply cod_cond_f; (focus rfl)) | refine cod_skip ?_ | refine pst_block ?_))
          refine pst_again ((k, cnt, tab)) ?_ (FSub.of (by (try dsimp only); exact fsa)) (by (try dsimp only); exact hsa) ?_
          · exact ⟨⟨by dsimp only; omega, by dsimp only; omega, .inr (by dsimp only; omega)⟩, by rw [htab, scan_none (by omega) hlog]⟩
          · dsimp only; omega
        | some t =>
          obtain ⟨n, zs, b⟩ := t
          have hnn := log_num hlog
          have C1 := cell_some (a := a) (w := w) (ca := ca) (cw := cw) (by omega) hgd hlog
          (repeat' (first | (apply run_qg 1; (focus rfl); (focus exact wt); (focus rfl); (focus (exact qg1))) | (apply run_qg 2; (focus rfl); (focus exact wt); (focus rfl); (focus (first | exact qg2 | exact qs2))) | (apply run_qg 4; (focus rfl); (focus exact wt); (focus rfl); (focus (first | exact qg4 | exact qs4))) | refine cod_seq ?_ | refine cod_region ?_ | refine run_nil ?_ | refine pst_then ?_ | (apply cod_cond_t; (focus rfl)) | refine cod_block ?_ | refine cod_skip ?_))
          (refine run_os wt rfl (opr_call_l rfl (C1) rfl (by exact lpa)) ?_; rintro _ _ ⟨_, ⟨q, c, rfl, rfl⟩, rfl⟩; dsimp only [List.cons_append, List.nil_append])
          (repeat' (first | (apply run_qg 1; (focus rfl); (focus exact wt); (focus rfl); (focus (exact qg1))) | (apply run_qg 5; (focus rfl); (focus exact wt); (focus rfl); (focus (exact qg5))) | refine cod_seq ?_ | refine cod_region ?_ | refine run_nil ?_ | refine pst_then ?_ | (apply cod_cond_t; (focus rfl))))
          refine run_on wt (opr_mapUpdateN (key := n) (u := .agg #[.int .i64 (k : Int), .slice q zs.length c, .bool b]) rfl rfl rfl rfl pka (ok_num (by omega) (by omega)) (by unfold maxLen; omega)) ?_
          rintro _ _ ⟨rfl, rfl⟩
          have e : (fun x => if x = n then some (Value.agg #[.int .i64 (k : Int), .slice q zs.length c, .bool b]) else lookL tab x) = lookL ((n, k, zs, b, q, c) :: tab) := look_cons tab (n, k, zs, b, q, c)
          rw [e]
          (repeat' (first | (apply run_qg 1; (focus rfl); (focus exact wt); (focus rfl); (focus (exact qg1))) | (apply run_qg 4; (focus rfl); (focus exact wt); (focus rfl); (focus (first | exact qg4 | exact qs4))) | (apply run_qg 6; (focus rfl); (focus exact wt); (focus rfl); (focus (first | exact qs6 | exact qg6 | exact q_max rfl rfl rfl | exact q_sliceData rfl rfl (by omega) | exact q_sliceDataN rfl rfl | exact q_unsafeStringN rfl rfl rfl | exact q_cap_slice rfl rfl))) | refine cod_region ?_ | refine run_nil ?_ | refine pst_then ?_ | refine pst_block ?_))
          refine pst_weak (FSub.refl _) (bundle_in (e := rowL (n, k, zs, b, q, c)) (l := tab.map rowL) pka pka (rowL_x _)) ?_
          refine pst_again ((k, cnt + 1, (n, k, zs, b, q, c) :: tab)) ?_ (FSub.of (by (try dsimp only); exact fsa)) (by (try dsimp only); exact hsa) ?_
          · exact ⟨⟨by dsimp only; omega, by dsimp only; omega, .inr (by dsimp only; omega)⟩, by rw [scan_some (by omega) hlog, ← htab]; rfl⟩
          · dsimp only; omega
      · have htab2 : tab.map stripL = scanF cs ps 2 := by
          rcases hm2 with h | h
          · rw [htab, h, scan_end cs ps (Nat.le_refl _), scan_end cs ps (by omega)]
          · rw [htab, show m = 2 by omega]
        have R1 := fun outs => R0 tab outs htab2
        (repeat' (first | (apply run_qg 1; (focus rfl); (focus exact wt); (focus rfl); (focus (exact qg1))) | (apply run_qg 4; (focus rfl); (focus exact wt); (focus rfl); (focus (first | exact qg4 | exact qs4))) | refine cod_seq ?_ | refine cod_region ?_ | refine run_nil ?_ | refine pst_then ?_ | (apply cod_cond_f; (focus rfl)) | refine cod_block ?_ | refine cod_exit ?_ | refine pst_block_here ?_ | refine pst_then_exit ?_))
        refine cod_heap (heap_nil _ 48 3) ?_
        have e0 : after + 1 = after + 1 + ((([] : List LRow).length : Nat) : Int) := by simp
        rw [e0]
        (refine cod_loop_rw (σ := List LRow × Option Addr × Nat × Nat) (fun x => (x.2.2.2 = wholeF x.1 ∧ after + 1 + (x.1.length : Int) ≤ 2147483648) ∧ Chain tab after x.1) (fun x => [(17, .int .i64 (after + 1 + (x.1.length : Int))), (15, .slice x.2.1 x.1.length x.2.2.1), (16, .int .i64 (x.2.2.2 : Int))]) (fun x => [own (.slice x.2.1 x.1.length x.2.2.1) 48 3 x.1.length (flat fEn x.1)]) _ (fun x => (2147483648 - (after + 1 + (x.1.length : Int))).toNat) (([], none, 0, 0)) (by exact ⟨⟨rfl, by dsimp only; rw [List.length_nil]; omega⟩, fun k r h => by cases h⟩) (by exact fsa) (by (first | exact HSub.of_picks_rest (by exact pca))) (fun ⟨outs, qo, co, wh⟩ ⟨⟨hwh, hlen⟩, hch⟩ => ?_); dsimp only [List.cons_append, List.nil_append])
        dsimp only at hwh hlen hch ⊢
        have hwl := whole_le outs
        rw [← hwh] at hwl
        cases hf : tab.find? (fun r => r.1 == after + 1 + (outs.length : Int)) with
        | none =>
          have hlk : lookL tab (after + 1 + (outs.length : Int)) = none := by unfold lookL; rw [hf]; rfl
          have hok := R1 outs hch hf
          (repeat' (first | (apply run_qg 1; (focus rfl); (focus exact wt); (focus rfl); (focus (exact qg1))) | refine cod_seq ?_ | refine cod_region ?_ | refine cod_block ?_))
          refine run_qs wt rfl (q_lookupN (v := .tuple #[.agg #[.int .i64 0, .slice none 0 0, .bool false], .bool false]) rfl rfl rfl pka (ok_num (by omega) (by omega)) (by rw [hlk])) ?_
          (repeat' (first | (apply run_qg 1; (focus rfl); (focus exact wt); (focus rfl); (focus (exact qg1))) | (apply run_qg 4; (focus rfl); (focus exact wt); (focus rfl); (focus (first | exact qg4 | exact qs4))) | refine cod_seq ?_ | refine cod_region ?_ | refine run_nil ?_ | refine pst_then ?_ | (apply cod_cond_t; (focus rfl)) | refine cod_exit ?_ | refine pst_block_here ?_ | refine pst_block_out rfl ?_ | refine pst_then_exit ?_ | (apply run_osg 8; (focus rfl); (focus exact wt); (focus rfl); (focus (exact opr_new rfl)); (rintro _ _ ⟨b, rfl, rfl⟩)) | (apply run_ong 9; (focus rfl); (focus exact wt); (focus (exact opr_store_box_agg rfl rfl rfl (by exact pka) rfl rfl rfl (by exact spla))); (rintro _ _ ⟨rfl, rfl⟩))))
          refine run_ownc (q := qo) (m := outs.length) (c := co) (e := 48) (sz := 3) (xs := flat fEn outs) pka fun hmc => ?_
          refine run_qs wt rfl (q_slice_hm (m := wh) rfl rfl rfl rfl rfl rfl (by omega)) ?_
          (repeat' (first | (apply run_qg 1; (focus rfl); (focus exact wt); (focus rfl); (focus (exact qg1))) | refine run_nil ?_ | refine pst_then ?_ | refine cod_ret ?_))
          exact pst_fin rfl (by exact resa) _ (.inl ⟨tab, outs, qo, co, hok, by rw [hwh], rfl⟩) (by exact hsa)
        | some r =>
          obtain ⟨n, k, zs, lb, lq, c⟩ := r
          have hn : n = after + 1 + (outs.length : Int) := by simpa using List.find?_some hf
          have hlk : lookL tab (after + 1 + (outs.length : Int)) = some (.agg #[.int .i64 (k : Int), .slice lq zs.length c, .bool lb]) := by unfold lookL; rw [hf]; rfl
          have hnb := hnum _ (List.mem_of_find?_eq_some hf)
          dsimp only at hnb
          have hch2 := chain_add hch hf
          have hs : after + 1 + (outs.length : Int) + 1 = after + 1 + (((outs ++ [((n, k, zs, lb, lq, c) : LRow)]).length : Nat) : Int) := by rw [List.length_append, List.length_singleton]; omega
          have hwa := whole_add outs (n, k, zs, lb, lq, c)
          dsimp only at hwa
          (repeat' (first | (apply run_qg 1; (focus rfl); (focus exact wt); (focus rfl); (focus (exact qg1))) | refine cod_seq ?_ | refine cod_region ?_ | refine cod_block ?_))
          refine run_qs wt rfl (q_lookupN (v := .tuple #[.agg #[.int .i64 (k : Int), .slice lq zs.length c, .bool lb], .bool true]) rfl rfl rfl pka (ok_num (by omega) (by omega)) (by rw [hlk])) ?_
          (repeat' (first | (apply run_qg 1; (focus rfl); (focus exact wt); (focus rfl); (focus (exact qg1))) | (apply run_qg 2; (focus rfl); (focus exact wt); (focus rfl); (focus (first | exact qg2 | exact qs2))) | (apply run_qg 4; (focus rfl); (focus exact wt); (focus rfl); (focus (first | exact qg4 | exact qs4))) | refine cod_seq ?_ | refine cod_region ?_ | refine run_nil ?_ | refine pst_then ?_ | (apply cod_cond_f; (focus rfl)) | refine cod_skip ?_ | (apply run_osg 8; (focus rfl); (focus exact wt); (focus rfl); (focus (exact opr_new rfl)); (rintro _ _ ⟨b, rfl, rfl⟩)) | (apply run_ong 9; (focus rfl); (focus exact wt); (focus (exact opr_store_box_agg rfl rfl rfl (by exact pka) rfl rfl rfl (by exact spla))); (rintro _ _ ⟨rfl, rfl⟩)) | (apply run_osg 10; (focus rfl); (focus exact wt); (focus rfl); (focus (exact opr_buildSlice rfl rfl rfl (by exact blda) rfl rfl (by decide) rfl)); (rintro _ _ ⟨q, rfl, rfl⟩))))
          refine run_os wt rfl (by first | exact opr_append_lit0 (fEn) [((n, k, zs, lb, lq, c) : LRow)] rfl rfl rfl (by exact pka) (by rfl) (by rfl) (by intro _; rfl) (by (first | exact one_fS | exact one_fI | exact one_fB | exact one_fP | exact one_fIIS | exact one_fIIIS | exact one_fII | exact one_fSI | exact one_fIIU | exact one_fY | exact one_fBl | exact one_fT | exact one_fE | assumption)) rfl (by simp only [List.length_cons, List.length_nil]; omega) (by (unfold maxLen); simp only [List.length_cons, List.length_nil]; omega) | exact opr_append_lit (fEn) [((n, k, zs, lb, lq, c) : LRow)] rfl rfl rfl (by exact pka) (by exact pka) (by rfl) (by rfl) (by first | rfl | omega) (by intro _; rfl) (by (first | exact one_fS | exact one_fI | exact one_fB | exact one_fP | exact one_fIIS | exact one_fIIIS | exact one_fII | exact one_fSI | exact one_fIIU | exact one_fY | exact one_fBl | exact one_fT | exact one_fE | assumption)) rfl (by simp only [List.length_cons, List.length_nil]; omega) (by (unfold maxLen); simp only [List.length_cons, List.length_nil]; omega)) ?_
          rintro _ _ ⟨q5, c5, rfl, rfl⟩
          cases lb with
          | true =>
            rw [if_pos rfl] at hwa
            (repeat' (first | (apply run_qg 1; (focus rfl); (focus exact wt); (focus rfl); (focus (exact qg1))) | (apply run_qg 2; (focus rfl); (focus exact wt); (focus rfl); (focus (first | exact qg2 | exact qs2))) | (apply run_qg 3; (focus rfl); (focus exact wt); (focus rfl); (focus (first | exact qg3 | exact qs3))) | (apply run_qg 4; (focus rfl); (focus exact wt); (focus rfl); (focus (first | exact qg4 | exact qs4))) | (apply run_qg 6; (focus rfl); (focus exact wt); (focus rfl); (focus (first | exact qs6 | exact qg6 | exact q_max rfl rfl rfl | exact q_sliceData rfl rfl (by omega) | exact q_sliceDataN rfl rfl | exact q_unsafeStringN rfl rfl rfl | exact q_cap_slice rfl rfl))) | refine cod_seq ?_ | refine cod_region ?_ | refine run_nil ?_ | refine pst_then ?_ | (apply cod_cond_t; (focus rfl)) | refine pst_block ?_))
            rw [hs]
            refine pst_again ((outs ++ [(n, k, zs, true, lq, c)], q5, c5, (outs ++ [((n, k, zs, true, lq, c) : LRow)]).length)) ?_ (FSub.of (by (try dsimp only); exact fsa)) (by (try dsimp only); exact hsa) ?_
            · exact ⟨⟨by dsimp only; rw [hwa, List.length_append, List.length_singleton], by dsimp only; omega⟩, hch2⟩
            · dsimp only; omega
          | false =>
            rw [if_neg (by decide)] at hwa
            (repeat' (first | (apply run_qg 1; (focus rfl); (focus exact wt); (focus rfl); (focus (exact qg1))) | (apply run_qg 2; (focus rfl); (focus exact wt); (focus rfl); (focus (first | exact qg2 | exact qs2))) | (apply run_qg 3; (focus rfl); (focus exact wt); (focus rfl); (focus (first | exact qg3 | exact qs3))) | (apply run_qg 4; (focus rfl); (focus exact wt); (focus rfl); (focus (first | exact qg4 | exact qs4))) | refine cod_seq ?_ | refine cod_region ?_ | refine run_nil ?_ | refine pst_then ?_ | (apply cod_cond_f; (focus rfl)) | refine cod_skip ?_ | refine pst_block ?_))
            rw [hs]
            refine pst_again ((outs ++ [(n, k, zs, false, lq, c)], q5, c5, wh)) ?_ (FSub.of (by (try dsimp only); exact fsa)) (by (try dsimp only); exact hsa) ?_
            · exact ⟨⟨by dsimp only; rw [hwa]; exact hwh, by dsimp only; omega⟩, hch2⟩
            · dsimp only; omega
    · (refine spec_enter Try.func12 Try.ntmps12 rfl rfl fun Fr => ?_; dsimp only [List.cons_append, List.nil_append, ini, Nat.reduceAdd])
      rw [hd] at C0
      (repeat' (first | (apply run_qg 1; (focus rfl); (focus exact wt); (focus rfl); (focus (exact qg1))) | (apply run_qg 2; (focus rfl); (focus exact wt); (focus rfl); (focus (first | exact qg2 | exact qs2))) | (apply run_qg 4; (focus rfl); (focus exact wt); (focus rfl); (focus (first | exact qg4 | exact qs4))) | refine cod_seq ?_ | refine cod_region ?_ | refine run_nil ?_ | refine pst_then ?_ | (apply cod_cond_t; (focus rfl)) | (apply cod_cond_f; (focus rfl)) | refine cod_ret ?_ | refine cod_skip ?_ | refine pst_then_ret ?_ | (apply run_osg 8; (focus rfl); (focus exact wt); (focus rfl); (focus (exact opr_box_agg rfl rfl)); (rintro _ _ ⟨b, rfl, rfl⟩)) | (apply run_offs; (focus rfl); (focus rfl); (focus rfl)) | (apply run_osg 7; (focus rfl); (focus exact wt); (focus rfl); (focus (exact opr_call_ls (by rfl) (C0 ..) (by rfl) lpa)); (rintro _ _ ⟨rfl, rfl⟩)) | ((first | (apply run_lss; (rotate_left 2); (focus rfl)) | (apply run_leq; (rotate_left 2); (focus rfl)) | (apply run_gtr; (rotate_left 2); (focus rfl)) | (apply run_geq; (rotate_left 2); (focus rfl)) | (apply run_eql; (rotate_left 2); (focus rfl)) | (apply run_neq; (rotate_left 2); (focus rfl)) | (apply run_seq; (rotate_left 2); (focus rfl)) | (apply run_sneq; (rotate_left 2); (focus rfl))); (focus rfl); (focus rfl); (rotate_right 2); (focus exact wt); (focus rfl); (all_goals (intro h; dsimp only [upd])))))
      all_goals first | (exfalso; omega) | exact pst_fin rfl (by exact resa) _ (.inr ⟨fun h => ha h.2, 1, by decide, rfl, rfl⟩) (by exact hsa)
  · generalize hcd : checkD cs ps = e at C0 hd
    (refine spec_enter Try.func12 Try.ntmps12 rfl rfl fun Fr => ?_; dsimp only [List.cons_append, List.nil_append, ini, Nat.reduceAdd])
    (repeat' (first | (apply run_qg 1; (focus rfl); (focus exact wt); (focus rfl); (focus (exact qg1))) | (apply run_qg 2; (focus rfl); (focus exact wt); (focus rfl); (focus (first | exact qg2 | exact qs2))) | (apply run_qg 4; (focus rfl); (focus exact wt); (focus rfl); (focus (first | exact qg4 | exact qs4))) | refine cod_seq ?_ | refine cod_region ?_ | refine run_nil ?_ | refine pst_then ?_ | (apply cod_cond_t; (focus rfl)) | refine cod_ret ?_ | refine pst_then_ret ?_ | (apply run_osg 8; (focus rfl); (focus exact wt); (focus rfl); (focus (exact opr_box_agg rfl rfl)); (rintro _ _ ⟨b, rfl, rfl⟩)) | (apply run_osg 7; (focus rfl); (focus exact wt); (focus rfl); (focus (exact opr_call_ls (by rfl) (C0 ..) (by rfl) lpa)); (rintro _ _ ⟨rfl, rfl⟩))))
    exact pst_fin rfl (by exact resa) _ (.inr ⟨fun h => hd (hcd ▸ h.1), e, hd, rfl, rfl⟩) (by exact hsa)
end Go.Proofs.Ytcaefeooneomnaa.use
/-
  linenref.SameEntry and slices.EqualFunc with it: lists that are the same.
-/
namespace Go.Proofs.Ytcaefeooneomnaa.use
open Go.RowKit kit sl Go.Proofs.Ytcaefeooneomnaa.blob
set_option linter.unusedVariables false
instance (priority := 2000) eqBl : EqV Try.prog 28 (fun p => Value.agg (fBl p).toArray) := eqV_of inferInstance pln_Bl
attribute [local irreducible] box own sl old bptr eptr Qt Opr Run Cod Pst Drn
set_option maxRecDepth 100000 in
set_option maxHeartbeats 8000000 in
theorem equal_B (qa qb : Option Addr) (ca cb : Nat) (xs ys : List (Blob)) (hn : xs.length ≤ maxLen) (hm : ys.length ≤ maxLen) :
    Ct Try.prog 38 [.slice qa xs.length ca, .slice qb ys.length cb] [sl 4 (.slice qa xs.length ca) (xs.map fBl), sl 4 (.slice qb ys.length cb) (ys.map fBl)] fun v H' => v = .bool (decide (xs = ys)) ∧ H' = [] := by
  unfold maxLen at hn hm
  by_cases hl : xs.length = ys.length
  · (refine spec_enter Try.func38 Try.ntmps38 rfl rfl fun Fr => ?_; dsimp only [List.cons_append, List.nil_append, ini, Nat.reduceAdd])
    (repeat' (first | (apply run_qg 1; (focus rfl); (focus exact wt); (focus rfl); (focus (exact qg1))) | (apply run_qg 4; (focus rfl); (focus exact wt); (focus rfl); (focus (first | exact qg4 | exact qs4))) | (apply run_qg 6; (focus rfl); (focus exact wt); (focus rfl); (focus (first | exact qs6 | exact qg6 | exact q_max rfl rfl rfl | exact q_sliceData rfl rfl (by omega) | exact q_sliceDataN rfl rfl | exact q_unsafeStringN rfl rfl rfl | exact q_cap_slice rfl rfl))) | refine cod_seq ?_ | refine cod_region ?_ | refine run_nil ?_ | refine pst_then ?_ | (apply cod_cond_f; (focus rfl)) | refine cod_block ?_ | refine cod_skip ?_))
    (refine cod_loop_ro (σ := Nat) (fun k => k ≤ xs.length ∧ xs.take k = ys.take k) (fun k => [(13, .int .i64 (k : Int))]) (fun k => xs.length - k) (0) (by simp) (by exact fsa) (fun k ⟨hk, ht⟩ => ?_); dsimp only [List.cons_append, List.nil_append])
    rcases get_or xs k with ⟨x, hx, hlt⟩ | hge
    · obtain ⟨y, hy⟩ : ∃ y, ys[k]? = some y := ⟨_, List.getElem?_eq_getElem (by omega)⟩
      by_cases hxy : x = y
      · (repeat' (first | (apply run_qg 1; (focus rfl); (focus exact wt); (focus rfl); (focus (exact qg1))) | (apply run_qg 4; (focus rfl); (focus exact wt); (focus rfl); (focus (first | exact qg4 | exact qs4))) | refine cod_seq ?_ | refine cod_region ?_ | refine run_nil ?_ | refine pst_then ?_ | (apply cod_cond_t; (focus rfl)) | (apply cod_cond_f; (focus rfl)) | refine cod_block ?_ | refine cod_skip ?_ | refine pst_block ?_ | (apply cod_drawn_k; (focus kernel_rfl); (focus (simp only [List.length_cons, List.length_nil, Nat.reduceAdd]; rfl))) | (apply drnK_take 1; (focus rfl); (focus rfl); (focus exact wt); (focus (decide +kernel)); (focus exact hsq); (focus rfl); (focus (exact qg1))) | (apply drnK_take 2; (focus rfl); (focus rfl); (focus exact wt); (focus (decide +kernel)); (focus exact hsq); (focus rfl); (focus (first | exact qg2 | exact qs2))) | (apply drnK_take 3; (focus rfl); (focus rfl); (focus exact wt); (focus (decide +kernel)); (focus exact hsq); (focus rfl); (focus (first | exact qg3 | exact qs3))) | (apply drnK_take 4; (focus rfl); (focus rfl); (focus exact wt); (focus (decide +kernel)); (focus exact hsq); (focus rfl); (focus (first | exact qg4 | exact qs4))) | (apply drnK_end; (focus (decide +kernel)))))
        refine pst_again (k + 1) ?_ (FSub.of (by (try dsimp only); exact fsa)) (by (try dsimp only); exact hsa) ?_
        · exact ⟨by omega, by rw [take_one hx, take_one hy, ht, hxy]⟩
        · show xs.length - (k + 1) < xs.length - k
          omega
      · (repeat' (first | (apply run_qg 1; (focus rfl); (focus exact wt); (focus rfl); (focus (exact qg1))) | (apply run_qg 4; (focus rfl); (focus exact wt); (focus rfl); (focus (first | exact qg4 | exact qs4))) | refine cod_seq ?_ | refine cod_region ?_ | refine run_nil ?_ | refine pst_then ?_ | (apply cod_cond_t; (focus rfl)) | refine cod_block ?_ | refine cod_ret ?_ | refine cod_skip ?_ | refine pst_block_ret ?_ | refine pst_then_ret ?_ | (apply cod_drawn_k; (focus kernel_rfl); (focus (simp only [List.length_cons, List.length_nil, Nat.reduceAdd]; rfl))) | (apply drnK_take 1; (focus rfl); (focus rfl); (focus exact wt); (focus (decide +kernel)); (focus exact hsq); (focus rfl); (focus (exact qg1))) | (apply drnK_take 2; (focus rfl); (focus rfl); (focus exact wt); (focus (decide +kernel)); (focus exact hsq); (focus rfl); (focus (first | exact qg2 | exact qs2))) | (apply drnK_take 3; (focus rfl); (focus rfl); (focus exact wt); (focus (decide +kernel)); (focus exact hsq); (focus rfl); (focus (first | exact qg3 | exact qs3))) | (apply drnK_take 4; (focus rfl); (focus rfl); (focus exact wt); (focus (decide +kernel)); (focus exact hsq); (focus rfl); (focus (first | exact qg4 | exact qs4))) | (apply drnK_end; (focus (decide +kernel)))))
        have hd : decide (xs = ys) = false := by
          rw [decide_eq_false_iff_not]
          intro e
          rw [e, hy] at hx
          exact hxy (Option.some.inj hx).symm
        exact pst_fin rfl (by exact resa) _ (⟨by rw [hd], rfl⟩) (by exact hsa)
    · (repeat' (first | (apply run_qg 1; (focus rfl); (focus exact wt); (focus rfl); (focus (exact qg1))) | (apply run_qg 4; (focus rfl); (focus exact wt); (focus rfl); (focus (first | exact qg4 | exact qs4))) | refine cod_seq ?_ | refine cod_region ?_ | refine run_nil ?_ | refine pst_then ?_ | (apply cod_cond_f; (focus rfl)) | refine cod_exit ?_ | refine cod_ret ?_ | refine pst_block_here ?_ | refine pst_then_exit ?_))
      have hd : decide (xs = ys) = true := by
        rw [decide_eq_true_iff]
        rwa [List.take_of_length_le hge, List.take_of_length_le (by omega)] at ht
      exact pst_fin rfl (by exact resa) _ (⟨by rw [hd], rfl⟩) (by exact hsa)
  · have hd : decide (xs = ys) = false := by
      rw [decide_eq_false_iff_not]
      intro e
      rw [e] at hl
      exact hl rfl
    (refine spec_enter Try.func38 Try.ntmps38 rfl rfl fun Fr => ?_; dsimp only [List.cons_append, List.nil_append, ini, Nat.reduceAdd])
    (repeat' (first | (apply run_qg 1; (focus rfl); (focus exact wt); (focus rfl); (focus (exact qg1))) | (apply run_qg 4; (focus rfl); (focus exact wt); (focus rfl); (focus (first | exact qg4 | exact qs4))) | (apply run_qg 6; (focus rfl); (focus exact wt); (focus rfl); (focus (first | exact qs6 | exact qg6 | exact q_max rfl rfl rfl | exact q_sliceData rfl rfl (by omega) | exact q_sliceDataN rfl rfl | exact q_unsafeStringN rfl rfl rfl | exact q_cap_slice rfl rfl))) | refine cod_seq ?_ | refine cod_region ?_ | refine run_nil ?_ | refine pst_then ?_ | (apply cod_cond_t; (focus rfl)) | refine cod_ret ?_ | refine pst_then_ret ?_))
    exact pst_fin rfl (by exact resa) _ (⟨by rw [hd], rfl⟩) (by exact hsa)

/-- an entry: cell, blobs, last; where its blobs lie -/
abbrev SEnt := Int × List Blob × Bool × Option Addr × Nat
def fSE (r : SEnt) : List Value := [.int .i64 r.1, .slice r.2.2.2.1 r.2.1.length r.2.2.2.2, .bool r.2.2.1]
def lotS (r : SEnt) : Value × List (List Value) := (.slice r.2.2.2.1 r.2.1.length r.2.2.2.2, r.2.1.map fBl)
/-- the same but for where -/
def SameS (r s : SEnt) : Prop := r.1 = s.1 ∧ r.2.1 = s.2.1 ∧ r.2.2.1 = s.2.2.1
set_option maxRecDepth 100000 in
set_option maxHeartbeats 8000000 in
theorem same_any (i : Int) (zs : List Blob) (b : Bool) (qa qb : Option Addr) (ca cb : Nat) (hz : zs.length ≤ maxLen) :
    Ct Try.prog 18 [.agg #[.int .i64 i, .slice qa zs.length ca, .bool b], .agg #[.int .i64 i, .slice qb zs.length cb, .bool b]] [sl 4 (.slice qa zs.length ca) (zs.map fBl), sl 4 (.slice qb zs.length cb) (zs.map fBl)] fun v H' => v = .bool true ∧ H' = [] := by
  have EQ := ct_true (equal_B qa qb ca cb zs zs hz hz) rfl
  have hBl : (b == b) = true := by simp
  (refine spec_enter Try.func18 Try.ntmps18 rfl rfl fun Fr => ?_; dsimp only [List.cons_append, List.nil_append, ini, Nat.reduceAdd])
  (repeat' (first | (apply run_qg 1; (focus rfl); (focus exact wt); (focus rfl); (focus (exact qg1))) | (apply run_qg 2; (focus rfl); (focus exact wt); (focus rfl); (focus (first | exact qg2 | exact qs2))) | (apply run_qg 3; (focus rfl); (focus exact wt); (focus rfl); (focus (first | exact qg3 | exact qs3))) | (apply run_qg 4; (focus rfl); (focus exact wt); (focus rfl); (focus (first | exact qg4 | exact qs4))) | refine cod_seq ?_ | refine cod_region ?_ | refine run_nil ?_ | refine pst_then ?_ | refine cod_ret ?_ | (apply run_osg 8; (focus rfl); (focus exact wt); (focus rfl); (focus (exact opr_box_agg rfl rfl)); (rintro _ _ ⟨b, rfl, rfl⟩)) | (apply run_osg 7; (focus rfl); (focus exact wt); (focus rfl); (focus (exact opr_call_ls (by rfl) (EQ ..) (by rfl) lpa)); (rintro _ _ ⟨rfl, rfl⟩))))
  exact pst_fin rfl (by exact resa) _ (⟨rfl, rfl⟩) (by exact hsa)
set_option maxRecDepth 100000 in
set_option maxHeartbeats 8000000 in
theorem equalF_any (qa qb : Option Addr) (ca cb n : Nat) (xs ys : List SEnt) (LA LB : Lots) (ha : xs.length = n) (hb : ys.length = n) (hn : n ≤ 1000000000000) (hs : ∀ (k : Nat) (r s : SEnt), xs[k]? = some r → ys[k]? = some s → SameS r s) (hz : ∀ r ∈ xs, r.2.1.length ≤ maxLen) (hA : ∀ r ∈ xs, lotS r ∈ LA) (hB : ∀ s ∈ ys, lotS s ∈ LB) :
    Ct Try.prog 17 [.slice qa n ca, .slice qb n cb, .func (.func 18) #[] #[]] [sl 3 (.slice qa n ca) (xs.map fSE), sl 3 (.slice qb n cb) (ys.map fSE), many 4 LA, many 4 LB] fun v H' => v = .bool true ∧ H' = [] := by
  (refine spec_enter Try.func17 Try.ntmps17 rfl rfl fun Fr => ?_; dsimp only [List.cons_append, List.nil_append, ini, Nat.reduceAdd])
  (repeat' (first | (apply run_qg 1; (focus rfl); (focus exact wt); (focus rfl); (focus (exact qg1))) | (apply run_qg 4; (focus rfl); (focus exact wt); (focus rfl); (focus (first | exact qg4 | exact qs4))) | (apply run_qg 6; (focus rfl); (focus exact wt); (focus rfl); (focus (first | exact qs6 | exact qg6 | exact q_max rfl rfl rfl | exact q_sliceData rfl rfl (by omega) | exact q_sliceDataN rfl rfl | exact q_unsafeStringN rfl rfl rfl | exact q_cap_slice rfl rfl))) | refine cod_seq ?_ | refine cod_region ?_ | refine run_nil ?_ | refine pst_then ?_ | (apply cod_cond_f; (focus rfl)) | refine cod_block ?_ | refine cod_skip ?_))
  (refine cod_loop_ro (σ := Nat) (fun k => k ≤ n) (fun k => [(17, .int .i64 (k : Int))]) (fun k => n - k) (0) (by exact Nat.zero_le _) (by exact fsa) (fun k hk => ?_); dsimp only [List.cons_append, List.nil_append])
  rcases Nat.lt_or_ge k n with hlt | hge
  · obtain ⟨⟨ia, za, ba, pa, xa⟩, hra⟩ : ∃ r, xs[k]? = some r := ⟨_, List.getElem?_eq_getElem (by omega)⟩
    obtain ⟨⟨ib, zb, bb, pb, xb⟩, hrb⟩ : ∃ r, ys[k]? = some r := ⟨_, List.getElem?_eq_getElem (by omega)⟩
    obtain ⟨e1, e2, e3⟩ := hs k _ _ hra hrb
    dsimp only at e1 e2 e3
    subst e1 e2 e3
    have SE := same_any ia za ba pa pb xa xb (hz _ (List.mem_of_getElem? hra))
    refine cod_heap (many_out (l := LA) pka (hA _ (List.mem_of_getElem? hra))) ?_
    refine cod_heap (many_out (l := LB) pka (hB _ (List.mem_of_getElem? hrb))) ?_
    dsimp only [lotS]
    (repeat' (first | (apply run_qg 1; (focus rfl); (focus exact wt); (focus rfl); (focus (exact qg1))) | (apply run_qg 2; (focus rfl); (focus exact wt); (focus rfl); (focus (first | exact qg2 | exact qs2))) | (apply run_qg 3; (focus rfl); (focus exact wt); (focus rfl); (focus (first | exact qg3 | exact qs3))) | (apply run_qg 4; (focus rfl); (focus exact wt); (focus rfl); (focus (first | exact qg4 | exact qs4))) | refine cod_seq ?_ | refine cod_region ?_ | refine run_nil ?_ | refine pst_then ?_ | (apply cod_cond_t; (focus rfl)) | (apply cod_cond_f; (focus rfl)) | refine cod_block ?_ | refine cod_skip ?_ | refine pst_block ?_ | (apply run_osg 8; (focus rfl); (focus exact wt); (focus rfl); (focus (exact opr_new rfl)); (rintro _ _ ⟨b, rfl, rfl⟩)) | (apply run_ong 9; (focus rfl); (focus exact wt); (focus (exact opr_store_box_agg rfl rfl rfl (by exact pka) rfl rfl rfl (by exact spla))); (rintro _ _ ⟨rfl, rfl⟩)) | (apply run_osg 7; (focus rfl); (focus exact wt); (focus rfl); (focus (exact opr_callv_ls (by rfl) (by rfl) (by rfl) (SE ..) (by rfl) lpa)); (rintro _ _ ⟨rfl, rfl⟩))))
    refine pst_again (k + 1) ?_ (FSub.of (by (try dsimp only); exact fsa)) (by (try dsimp only); exact hsa) ?_
    · omega
    · omega
  · have hkn : k = n := by omega
    subst hkn
    (repeat' (first | (apply run_qg 1; (focus rfl); (focus exact wt); (focus rfl); (focus (exact qg1))) | (apply run_qg 4; (focus rfl); (focus exact wt); (focus rfl); (focus (first | exact qg4 | exact qs4))) | refine cod_seq ?_ | refine cod_region ?_ | refine run_nil ?_ | refine pst_then ?_ | (apply cod_cond_f; (focus rfl)) | refine cod_exit ?_ | refine cod_ret ?_ | refine pst_block_here ?_ | refine pst_then_exit ?_))
    exact pst_fin rfl (by exact resa) _ (⟨rfl, rfl⟩) (by exact hsa)
end Go.Proofs.Ytcaefeooneomnaa.use
/-
  A log laid out over the cells, wherever: what scan.Run makes of it (no program).
-/
namespace Go.Proofs.Ytcaefeooneomnaa.lawScanOrder
open Go.RowKit kit sl Go.Proofs.Ytcaefeooneomnaa.use Go.Proofs.Ytcaefeooneomnaa.blob Go.Proofs.Ytcaefeooneomnaa.seal Go.Proofs.Ytcaefeooneomnaa.disk
set_option linter.unusedVariables false
def atP (n t i : Nat) : Nat := if i + t < n then 2 + i + t else 2 + i + t - n
def invP (n t k : Nat) : Nat := if t ≤ k - 2 then k - 2 - t else k - 2 + n - t
theorem at_bd {n t i : Nat} (ht : t < n) (hi : i < n) : 2 ≤ atP n t i ∧ atP n t i < n + 2 := by unfold atP; split <;> omega
theorem inv_at {n t i : Nat} (ht : t < n) (hi : i < n) : invP n t (atP n t i) = i := by unfold invP atP; split <;> split <;> omega
theorem at_inv {n t k : Nat} (ht : t < n) (h2 : 2 ≤ k) (hk : k < n + 2) : invP n t k < n ∧ atP n t (invP n t k) = k := by unfold invP atP; split <;> split <;> omega
def textC (n t : Nat) (B : Nat → List UInt8) (i k : Nat) : List UInt8 := if 2 ≤ k ∧ invP n t k < i then B (invP n t k) else []
def cellsC (n t : Nat) (B : Nat → List UInt8) (i : Nat) : List ByteArray := (List.range (n + 2)).map fun k => str (textC n t B i k)
theorem cellsC_len (n t : Nat) (B : Nat → List UInt8) (i : Nat) : (cellsC n t B i).length = n + 2 := by simp [cellsC]
theorem cellsC_at {n t k : Nat} (B : Nat → List UInt8) (i : Nat) (h : k < n + 2) : (cellsC n t B i)[k]? = some (str (textC n t B i k)) := by
  unfold cellsC
  rw [List.getElem?_map, List.getElem?_range h]
  rfl
theorem cellsC_zero (n t : Nat) (B : Nat → List UInt8) : List.replicate (n + 2) (str []) = cellsC n t B 0 := by
  apply List.ext_getElem?
  intro k
  rcases Nat.lt_or_ge k (n + 2) with hk | hk
  · rw [cellsC_at _ _ hk, List.getElem?_replicate, if_pos hk]
    unfold textC
    rw [if_neg (by omega)]
  · rw [List.getElem?_eq_none (by simpa using hk), List.getElem?_eq_none (by rw [cellsC_len]; exact hk)]
theorem cellsC_set {n t i : Nat} (B : Nat → List UInt8) (ht : t < n) (hi : i < n) : (cellsC n t B i).set (atP n t i) (str (B i)) = cellsC n t B (i + 1) := by
  apply List.ext_getElem?
  intro k
  have hb := at_bd ht hi
  rw [List.getElem?_set]
  rcases Nat.lt_or_ge k (n + 2) with hk | hk
  · rw [cellsC_at _ _ hk, cellsC_at _ _ hk]
    by_cases e : atP n t i = k
    · rw [if_pos e, if_pos (by rw [cellsC_len]; omega)]
      unfold textC
      have h1 := inv_at ht hi
      rw [e] at h1
      rw [h1, if_pos (by omega)]
    · rw [if_neg e]
      unfold textC
      by_cases h2 : 2 ≤ k
      · obtain ⟨h3, h4⟩ := at_inv ht h2 hk
        have hne : invP n t k ≠ i := fun h => e (by rw [← h]; exact h4)
        by_cases h5 : invP n t k < i
        · rw [if_pos ⟨h2, h5⟩, if_pos ⟨h2, by omega⟩]
        · rw [if_neg (by omega), if_neg (by omega)]
      · rw [if_neg (by omega), if_neg (by omega)]
  · rw [if_neg (by omega), List.getElem?_eq_none (by rw [cellsC_len]; exact hk), List.getElem?_eq_none (by rw [cellsC_len]; exact hk)]
def bodyC (after : Int) (zs : Nat → List Blob) (la : Nat → Bool) (i : Nat) : List UInt8 := sealB 1 (after + 1 + (i : Int)) (writeB (zs i) (la i))
theorem sealE_ok {after : Int} {zs : List Blob} {b : Bool} (ha : 0 ≤ after ∧ after ≤ 2147483647) (hw : writeE zs = 0) : sealE 1 after (writeB zs b).length = 0 := by
  have := (read_write b hw).1
  unfold sealE
  rw [if_neg (by omega), if_neg (by omega)]
theorem now_nil (cs : List ByteArray) (k : Nat) {s : List UInt8} (h : cs[k]? = some (str s)) : nowL cs [] k = s := by
  unfold nowL nowD
  show (cs.getD ((k : Int)).toNat ⟨#[]⟩).data.toList = s
  rw [Int.toNat_natCast, List.getD_eq_getElem?_getD, h]
  rfl
section
variable {n t : Nat} {after : Int} {zs : Nat → List Blob} {la : Nat → Bool}
theorem log_at (ht : t < n) (ha : 0 ≤ after ∧ after + (n : Int) ≤ 2147483647) (hw : ∀ j, j < n → writeE (zs j) = 0) {k : Nat} (h2 : 2 ≤ k) (hk : k < n + 2) :
    logF (cellsC n t (bodyC after zs la) n) [] k = some (after + 1 + (invP n t k : Int), zs (invP n t k), la (invP n t k)) := by
  obtain ⟨h3, h4⟩ := at_inv ht h2 hk
  obtain ⟨j, hj⟩ : ∃ j, invP n t k = j := ⟨_, rfl⟩
  have hn := now_nil _ k (cellsC_at (n := n) (t := t) (bodyC after zs la) n hk)
  have ht2 : textC n t (bodyC after zs la) n k = sealB 1 (after + 1 + (j : Int)) (writeB (zs j) (la j)) := by unfold textC; rw [if_pos ⟨h2, h3⟩, hj]; rfl
  rw [hj] at h3 ⊢
  rw [ht2] at hn
  have hE := sealE_ok (after := after + 1 + (j : Int)) (b := la j) (by omega) (hw j h3)
  obtain ⟨o1, o2, o3, o4⟩ := open_seal _ _ _ hE
  obtain ⟨r1, r2, r3⟩ := read_write (la j) (hw j h3)
  unfold logF
  rw [hn, o1, o2, o3, o4, if_pos ⟨rfl, rfl⟩, r2, r3]
  rfl
theorem scan_at (ht : t < n) (ha : 0 ≤ after ∧ after + (n : Int) ≤ 2147483647) (hw : ∀ j, j < n → writeE (zs j) = 0) {y : Nat × Int × List Blob × Bool} :
    y ∈ scanF (cellsC n t (bodyC after zs la) n) [] 2 ↔ ∃ j, j < n ∧ y = (atP n t j, after + 1 + (j : Int), zs j, la j) := by
  unfold scanF
  rw [cellsC_len, List.mem_filterMap]
  constructor
  · rintro ⟨k, hk, he⟩
    rw [List.mem_range'_1] at hk
    rw [log_at ht ha hw hk.1 (by omega)] at he
    obtain ⟨h3, h4⟩ := at_inv ht hk.1 (by omega : k < n + 2)
    refine ⟨invP n t k, h3, ?_⟩
    rw [h4]
    exact (Option.some.inj he).symm
  · rintro ⟨j, hj, rfl⟩
    obtain ⟨h1, h2⟩ := at_bd ht hj
    refine ⟨atP n t j, by rw [List.mem_range'_1]; omega, ?_⟩
    rw [log_at ht ha hw h1 h2, inv_at ht hj]
    rfl
/-- where the last one ends that has last -/
def wholeW (f : Nat → Bool) : Nat → Nat
  | 0 => 0
  | i + 1 => if f i then i + 1 else wholeW f i
theorem wholeW_le (f : Nat → Bool) : ∀ n, wholeW f n ≤ n := by
  intro n
  induction n with
  | zero => exact Nat.le_refl _
  | succ n ih => unfold wholeW; split <;> omega
theorem whole_is {outs : List LRow} {f : Nat → Bool} : ∀ j, j ≤ outs.length → (∀ (k : Nat) (r : LRow), outs[k]? = some r → r.2.2.2.1 = f k) → wholeF (outs.take j) = wholeW f j := by
  intro j
  induction j with
  | zero => intro _ _; rfl
  | succ j ih =>
    intro hj h
    obtain ⟨r, hr⟩ : ∃ r, outs[j]? = some r := ⟨_, List.getElem?_eq_getElem hj⟩
    rw [List.take_add_one, hr]
    show wholeF (outs.take j ++ [r]) = _
    rw [whole_add, h j r hr, ih (by omega) h, wholeW, List.length_take, Nat.min_eq_left (by omega)]
theorem top_le {B : Int} (ha : after ≤ B) : ∀ {tab : List LRow}, (∀ r ∈ tab, r.1 ≤ B) → topF after tab ≤ B := by
  intro tab
  induction tab with
  | nil => intro _; exact ha
  | cons r l ih =>
    intro h
    have h1 := ih fun s hs => h s (List.mem_cons_of_mem _ hs)
    have h2 := h r List.mem_cons_self
    show max _ _ ≤ _
    omega
theorem top_ge : ∀ {tab : List LRow}, after ≤ topF after tab ∧ ∀ r ∈ tab, r.1 ≤ topF after tab := by
  intro tab
  induction tab with
  | nil => exact ⟨Int.le_refl _, fun r hr => absurd hr List.not_mem_nil⟩
  | cons r l ih =>
    have e : topF after (r :: l) = max (topF after l) r.1 := rfl
    rw [e]
    refine ⟨by omega, fun s hs => ?_⟩
    rcases List.mem_cons.1 hs with rfl | hs
    · omega
    · have := ih.2 s hs; omega
theorem order_law (ht : t < n) (ha : 0 ≤ after ∧ after + (n : Int) ≤ 2147483647) (hw : ∀ j, j < n → writeE (zs j) = 0) {tab outs : List LRow} (h : RunOk (cellsC n t (bodyC after zs la) n) [] after tab outs) :
    outs.length = n ∧ (∀ (j : Nat) (r : LRow), outs[j]? = some r → r.1 = after + 1 + (j : Int) ∧ r.2.1 = atP n t j ∧ r.2.2.1 = zs j ∧ r.2.2.2.1 = la j) ∧ topF after tab = after + (n : Int) ∧ wholeF outs = wholeW la n ∧ ∀ r ∈ outs, r ∈ tab := by
  obtain ⟨_, _, htab, hch, hend⟩ := h
  have mem : ∀ r ∈ tab, ∃ j, j < n ∧ stripL r = (atP n t j, after + 1 + (j : Int), zs j, la j) := fun r hr => (scan_at ht ha hw).1 (by rw [← htab]; exact List.mem_map_of_mem hr)
  have ex : ∀ j, j < n → ∃ r ∈ tab, stripL r = (atP n t j, after + 1 + (j : Int), zs j, la j) := fun j hj => by
    have := (scan_at (after := after) (zs := zs) (la := la) ht ha hw).2 ⟨j, hj, rfl⟩
    rw [← htab] at this
    exact List.mem_map.1 this
  have hlen : outs.length = n := by
    rcases Nat.lt_trichotomy outs.length n with g | g | g
    · obtain ⟨r, hr, e⟩ := ex _ g
      have e1 : r.1 = after + 1 + (outs.length : Int) := congrArg (fun y => y.2.1) e
      exact absurd (List.find?_eq_none.1 hend r hr) (by simp [e1])
    · exact g
    · obtain ⟨r, hr⟩ : ∃ r, outs[n]? = some r := ⟨_, List.getElem?_eq_getElem g⟩
      have hf := hch n r hr
      obtain ⟨j, hj, e⟩ := mem r (List.mem_of_find?_eq_some hf)
      have e1 : r.1 = after + 1 + (j : Int) := congrArg (fun y => y.2.1) e
      have e2 : r.1 = after + 1 + (n : Int) := by simpa using List.find?_some hf
      omega
  have hat : ∀ (j : Nat) (r : LRow), outs[j]? = some r → r.1 = after + 1 + (j : Int) ∧ r.2.1 = atP n t j ∧ r.2.2.1 = zs j ∧ r.2.2.2.1 = la j := fun j r hr => by
    have hf := hch j r hr
    obtain ⟨i, hi, e⟩ := mem r (List.mem_of_find?_eq_some hf)
    have e1 : r.1 = after + 1 + (i : Int) := congrArg (fun y => y.2.1) e
    have e2 : r.1 = after + 1 + (j : Int) := by simpa using List.find?_some hf
    obtain rfl : i = j := by omega
    exact ⟨e2, congrArg (fun y => y.1) e, congrArg (fun y => y.2.2.1) e, congrArg (fun y => y.2.2.2) e⟩
  refine ⟨hlen, hat, ?_, ?_, fun r hr => ?_⟩
  · have h1 := top_le (after := after) (B := after + (n : Int)) (by omega) (tab := tab) fun r hr => by
      obtain ⟨j, hj, e⟩ := mem r hr
      have e1 : r.1 = after + 1 + (j : Int) := congrArg (fun y => y.2.1) e
      omega
    obtain ⟨r, hr, e⟩ := ex (n - 1) (by omega)
    have e1 : r.1 = after + 1 + ((n - 1 : Nat) : Int) := congrArg (fun y => y.2.1) e
    have := (top_ge (after := after) (tab := tab)).2 r hr
    omega
  · have := whole_is (outs := outs) (f := la) n (by omega) fun k r hr => (hat k r hr).2.2.2
    rwa [List.take_of_length_le (by omega)] at this
  · obtain ⟨j, hj⟩ := List.mem_iff_getElem?.1 hr
    exact List.mem_of_find?_eq_some (hch j r hj)
end
end Go.Proofs.Ytcaefeooneomnaa.lawScanOrder
/-
  A log of which one cell is lost: what scan.Run makes of it is a beginning of what it made before (no program).
-/
namespace Go.Proofs.Ytcaefeooneomnaa.lawScanFront
open Go.RowKit kit sl Go.Proofs.Ytcaefeooneomnaa.use Go.Proofs.Ytcaefeooneomnaa.blob Go.Proofs.Ytcaefeooneomnaa.seal Go.Proofs.Ytcaefeooneomnaa.disk Go.Proofs.Ytcaefeooneomnaa.lawScanOrder
set_option linter.unusedVariables false
/-- no two cells of the log have one number -/
def Distinct (cs : Cells) (ps : Waits) : Prop := ∀ i j, 2 ≤ i → i < cs.length → 2 ≤ j → j < cs.length → ∀ t u, logF cs ps i = some t → logF cs ps j = some u → t.1 = u.1 → i = j
/-- cell p of the log is lost -/
def Lost (cs : Cells) (ps : Waits) (cs' : Cells) (ps' : Waits) (p : Nat) : Prop := cs'.length = cs.length ∧ logF cs' ps' p = none ∧ ∀ k, k ≠ p → k < cs.length → logF cs' ps' k = logF cs ps k
theorem scan_mem {cs : Cells} {ps : Waits} {y : Nat × Int × List Blob × Bool} : y ∈ scanF cs ps 2 ↔ 2 ≤ y.1 ∧ y.1 < cs.length ∧ logF cs ps y.1 = some y.2 := by
  unfold scanF
  rw [List.mem_filterMap]
  constructor
  · rintro ⟨k, hk, he⟩
    rw [List.mem_range'_1] at hk
    obtain ⟨t, h1, rfl⟩ := Option.map_eq_some_iff.1 he
    exact ⟨hk.1, by dsimp only; omega, h1⟩
  · rintro ⟨h1, h2, h3⟩
    refine ⟨y.1, by rw [List.mem_range'_1]; omega, ?_⟩
    rw [h3]
    rfl
theorem whole_mono (f : Nat → Bool) : ∀ {i j}, i ≤ j → wholeW f i ≤ wholeW f j := by
  intro i j h
  induction h with
  | refl => exact Nat.le_refl _
  | @step m h ih =>
    refine Nat.le_trans ih ?_
    rw [wholeW]
    split
    · exact Nat.le_succ_of_le (wholeW_le f m)
    · exact Nat.le_refl _
theorem front_law {cs cs' : Cells} {ps ps' : Waits} {p : Nat} {after : Int} {tab outs tab' outs' : List LRow} (hD : Distinct cs ps) (hL : Lost cs ps cs' ps' p) (h : RunOk cs ps after tab outs) (h' : RunOk cs' ps' after tab' outs') :
    outs'.length ≤ outs.length ∧ wholeF outs' ≤ wholeF outs ∧ ∀ (k : Nat) (r r' : LRow), outs[k]? = some r → outs'[k]? = some r' → stripL r' = stripL r := by
  obtain ⟨_, _, htab, hch, hend⟩ := h
  obtain ⟨_, _, htab', hch', hend'⟩ := h'
  obtain ⟨hlen, hnone, hsame⟩ := hL
  have mem : ∀ r ∈ tab, 2 ≤ r.2.1 ∧ r.2.1 < cs.length ∧ logF cs ps r.2.1 = some (stripL r).2 := fun r hr => scan_mem.1 (by rw [← htab]; exact List.mem_map_of_mem hr)
  have mem' : ∀ r ∈ tab', ∃ s ∈ tab, stripL s = stripL r := fun r hr => by
    obtain ⟨h1, h2, h3⟩ : 2 ≤ r.2.1 ∧ r.2.1 < cs'.length ∧ logF cs' ps' r.2.1 = some (stripL r).2 := (scan_mem (y := stripL r)).1 (by rw [← htab']; exact List.mem_map_of_mem hr)
    have hp : r.2.1 ≠ p := fun e => by rw [e, hnone] at h3; cases h3
    rw [hsame _ hp (by omega)] at h3
    have : stripL r ∈ scanF cs ps 2 := scan_mem.2 ⟨h1, by rw [← hlen]; exact h2, h3⟩
    rw [← htab] at this
    exact List.mem_map.1 this
  have one : ∀ r ∈ tab, ∀ s ∈ tab, r.1 = s.1 → stripL r = stripL s := fun r hr s hs e => by
    obtain ⟨a1, a2, a3⟩ := mem r hr
    obtain ⟨b1, b2, b3⟩ := mem s hs
    have hi := hD _ _ a1 a2 b1 b2 _ _ a3 b3 e
    rw [hi, b3] at a3
    exact Prod.ext hi (Option.some.inj a3).symm
  have look : ∀ (k : Nat) (r' : LRow), outs'[k]? = some r' → ∃ r, tab.find? (fun r => r.1 == after + 1 + (k : Int)) = some r ∧ stripL r' = stripL r := fun k r' hr => by
    have hf := hch' k r' hr
    obtain ⟨s, hs, e⟩ := mem' r' (List.mem_of_find?_eq_some hf)
    have hn : r'.1 = after + 1 + (k : Int) := by simpa using List.find?_some hf
    have hs1 : s.1 = after + 1 + (k : Int) := by rw [← hn]; exact congrArg (fun y => y.2.1) e
    cases hfi : tab.find? (fun r => r.1 == after + 1 + (k : Int)) with
    | none => exact absurd (List.find?_eq_none.1 hfi s hs) (by simp [hs1])
    | some r =>
      have hr1 : r.1 = after + 1 + (k : Int) := by simpa using List.find?_some hfi
      exact ⟨r, rfl, by rw [← e]; exact one s hs r (List.mem_of_find?_eq_some hfi) (by rw [hs1, hr1])⟩
  have hle : outs'.length ≤ outs.length := by
    rcases Nat.lt_or_ge outs.length outs'.length with g | g
    · obtain ⟨r', hr'⟩ : ∃ r', outs'[outs.length]? = some r' := ⟨_, List.getElem?_eq_getElem g⟩
      obtain ⟨r, h1, _⟩ := look _ _ hr'
      rw [hend] at h1
      cases h1
    · exact g
  have hall : ∀ (k : Nat) (r r' : LRow), outs[k]? = some r → outs'[k]? = some r' → stripL r' = stripL r := fun k r r' hr hr' => by
    obtain ⟨s, h1, h2⟩ := look k r' hr'
    rw [hch k r hr] at h1
    cases h1
    exact h2
  refine ⟨hle, ?_, hall⟩
  have f : Nat → Bool := fun _ => true
  obtain ⟨g, hg⟩ : ∃ g : Nat → Bool, ∀ (k : Nat) (r : LRow), outs[k]? = some r → r.2.2.2.1 = g k := ⟨fun k => match outs[k]? with | some r => r.2.2.2.1 | none => false, fun k r hr => by dsimp only; rw [hr]⟩
  have e1 := whole_is (outs := outs) (f := g) outs.length (Nat.le_refl _) hg
  have e2 := whole_is (outs := outs') (f := g) outs'.length (Nat.le_refl _) fun k r' hr' => by
    obtain ⟨r, hr⟩ : ∃ r, outs[k]? = some r := ⟨_, List.getElem?_eq_getElem (by have := (List.getElem?_eq_some_iff.1 hr').1; omega)⟩
    have e := congrArg (fun y => y.2.2.2) (hall k r r' hr hr')
    exact (show r'.2.2.2.1 = r.2.2.2.1 from e).trans (hg k r hr)
  rw [List.take_length] at e1 e2
  rw [e1, e2]
  exact whole_mono g hle
theorem logF_now {cs : Cells} {ps : Waits} {cs' : Cells} {ps' : Waits} {k : Nat} (h : nowL cs' ps' k = nowL cs ps k) : logF cs' ps' k = logF cs ps k := by
  unfold logF
  rw [h]
theorem logF_short {cs : Cells} {ps : Waits} {k : Nat} (h : (nowL cs ps k).length < 11) : logF cs ps k = none := by
  unfold logF
  rw [if_neg]
  rintro ⟨h1, _⟩
  unfold openE at h1
  rw [if_pos h] at h1
  cases h1
end Go.Proofs.Ytcaefeooneomnaa.lawScanFront
/-
  slices.Index and slices.Contains, as the small logic says them.
-/
namespace Go.Proofs.Ytcaefeooneomnaa.sleq
open Go.RowKit kit sl
set_option linter.unusedVariables false
attribute [local irreducible] box own sl old bptr eptr Qt Opr Run Cod Pst Drn
/-- where p stands first, or -1 -/
def ixOf {α : Type} [DecidableEq α] (p : α) : List α → Int
  | [] => -1
  | q :: xs => if q = p then 0 else if ixOf p xs < 0 then -1 else ixOf p xs + 1
theorem ix_hit {α : Type} [DecidableEq α] {p : α} {xs : List α} {k : Nat} (h : xs[k]? = some p) (hm : p ∉ xs.take k) : ixOf p xs = (k : Int) := by
  induction xs generalizing k with
  | nil => simp at h
  | cons q xs ih =>
    cases k with
    | zero =>
      simp at h
      simp [ixOf, h]
    | succ k =>
      simp only [List.take_succ_cons, List.mem_cons, not_or] at hm
      have := ih (by simpa using h) hm.2
      have hq : ¬ q = p := fun e => hm.1 e.symm
      simp only [ixOf, if_neg hq, this]
      rw [if_neg (by omega)]
      omega
theorem ix_miss {α : Type} [DecidableEq α] {p : α} {xs : List α} (h : p ∉ xs) : ixOf p xs = -1 := by
  induction xs with
  | nil => rfl
  | cons q xs ih =>
    simp only [List.mem_cons, not_or] at h
    have hq : ¬ q = p := fun e => h.1 e.symm
    simp only [ixOf, if_neg hq, ih h.2]
    rfl
theorem ix_mem {α : Type} [DecidableEq α] {p : α} {xs : List α} (h : p ∈ xs) : 0 ≤ ixOf p xs := by
  induction xs with
  | nil => cases h
  | cons q xs ih =>
    simp only [ixOf]
    split
    · omega
    · rename_i hq
      rcases List.mem_cons.1 h with h | h
      · exact absurd h.symm hq
      · have := ih h
        rw [if_neg (by omega)]
        omega
end Go.Proofs.Ytcaefeooneomnaa.sleq
/-
  slices.Index and slices.Contains of ints.
-/
namespace Go.Proofs.Ytcaefeooneomnaa.sleq
open Go.RowKit kit sl
set_option linter.unusedVariables false
attribute [local irreducible] box own sl old bptr eptr Qt Opr Run Cod Pst Drn
set_option maxRecDepth 100000 in
set_option maxHeartbeats 8000000 in
theorem index_I (qa : Option Addr) (ca : Nat) (xs : List (Int)) (p : Int) (hn : xs.length ≤ maxLen) :
    Ct Try.prog 62 [.slice qa xs.length ca, .int .i64 p] [sl 1 (.slice qa xs.length ca) (xs.map fI)] fun v H' => v = .int .i64 (ixOf p xs) ∧ H' = [] := by
  unfold maxLen at hn
  (refine spec_enter Try.func62 Try.ntmps62 rfl rfl fun Fr => ?_; dsimp only [List.cons_append, List.nil_append, ini, Nat.reduceAdd])
  (repeat' (first | (apply run_qg 1; (focus rfl); (focus exact wt); (focus rfl); (focus (exact qg1))) | (apply run_qg 6; (focus rfl); (focus exact wt); (focus rfl); (focus (first | exact qs6 | exact qg6 | exact q_max rfl rfl rfl | exact q_sliceData rfl rfl (by omega) | exact q_sliceDataN rfl rfl | exact q_unsafeStringN rfl rfl rfl | exact q_cap_slice rfl rfl))) | refine cod_seq ?_ | refine cod_region ?_ | refine run_nil ?_ | refine pst_then ?_ | refine cod_block ?_))
  (refine cod_loop_ro (σ := Nat) (fun k => k ≤ xs.length ∧ p ∉ xs.take k) (fun k => [(8, .int .i64 (k : Int))]) (fun k => xs.length - k) (0) (by simp) (by exact fsa) (fun k ⟨hk, ht⟩ => ?_); dsimp only [List.cons_append, List.nil_append])
  rcases get_or xs k with ⟨x, hx, hlt⟩ | hge
  · by_cases hxy : p = x
    · (repeat' (first | (apply run_qg 1; (focus rfl); (focus exact wt); (focus rfl); (focus (exact qg1))) | (apply run_qg 2; (focus rfl); (focus exact wt); (focus rfl); (focus (first | exact qg2 | exact qs2))) | (apply run_qg 3; (focus rfl); (focus exact wt); (focus rfl); (focus (first | exact qg3 | exact qs3))) | (apply run_qg 4; (focus rfl); (focus exact wt); (focus rfl); (focus (first | exact qg4 | exact qs4))) | refine cod_seq ?_ | refine cod_region ?_ | refine run_nil ?_ | refine pst_then ?_ | (apply cod_cond_t; (focus rfl)) | refine cod_block ?_ | refine cod_ret ?_ | refine cod_skip ?_ | refine pst_block_ret ?_ | refine pst_then_ret ?_))
      exact pst_fin rfl (by exact resa) _ (⟨by rw [ix_hit (by rw [hxy]; exact hx) ht], rfl⟩) (by exact hsa)
    · (repeat' (first | (apply run_qg 1; (focus rfl); (focus exact wt); (focus rfl); (focus (exact qg1))) | (apply run_qg 2; (focus rfl); (focus exact wt); (focus rfl); (focus (first | exact qg2 | exact qs2))) | (apply run_qg 3; (focus rfl); (focus exact wt); (focus rfl); (focus (first | exact qg3 | exact qs3))) | (apply run_qg 4; (focus rfl); (focus exact wt); (focus rfl); (focus (first | exact qg4 | exact qs4))) | refine cod_seq ?_ | refine cod_region ?_ | refine run_nil ?_ | refine pst_then ?_ | (apply cod_cond_t; (focus rfl)) | (apply cod_cond_f; (focus rfl)) | refine cod_block ?_ | refine cod_skip ?_ | refine pst_block ?_))
      refine pst_again (k + 1) ?_ (FSub.of (by (try dsimp only); exact fsa)) (by (try dsimp only); exact hsa) ?_
      · refine ⟨by omega, ?_⟩
        rw [take_one hx]
        intro hm
        rcases List.mem_append.1 hm with hm | hm
        · exact ht hm
        · exact hxy (List.mem_singleton.1 hm)
      · show xs.length - (k + 1) < xs.length - k
        omega
  · rw [List.take_of_length_le hge] at ht
    (repeat' (first | (apply run_qg 1; (focus rfl); (focus exact wt); (focus rfl); (focus (exact qg1))) | (apply run_qg 4; (focus rfl); (focus exact wt); (focus rfl); (focus (first | exact qg4 | exact qs4))) | refine cod_seq ?_ | refine cod_region ?_ | refine run_nil ?_ | refine pst_then ?_ | (apply cod_cond_f; (focus rfl)) | refine cod_exit ?_ | refine cod_ret ?_ | refine pst_block_here ?_ | refine pst_then_exit ?_))
    exact pst_fin rfl (by exact resa) _ (⟨by rw [ix_miss ht], rfl⟩) (by exact hsa)
set_option maxRecDepth 100000 in
set_option maxHeartbeats 8000000 in
theorem contains_I (qa : Option Addr) (ca : Nat) (xs : List (Int)) (p : Int) (hn : xs.length ≤ maxLen) :
    Ct Try.prog 35 [.slice qa xs.length ca, .int .i64 p] [sl 1 (.slice qa xs.length ca) (xs.map fI)] fun v H' => v = .bool (decide (0 ≤ ixOf p xs)) ∧ H' = [] := by
  have IX := index_I qa ca xs p hn
  by_cases hp : 0 ≤ ixOf p xs
  · have h0 := hp
    (refine spec_enter Try.func35 Try.ntmps35 rfl rfl fun Fr => ?_; dsimp only [List.cons_append, List.nil_append, ini, Nat.reduceAdd])
    (repeat' (first | (first | (apply run_qg 1; (focus rfl); (focus exact wt); (focus rfl); (focus (exact qg1))) | (apply run_qg 2; (focus rfl); (focus exact wt); (focus rfl); (focus (exact qg2))) | (apply run_qg 3; (focus rfl); (focus exact wt); (focus rfl); (focus (exact qg3))) | (apply run_qg 4; (focus rfl); (focus exact wt); (focus rfl); (focus (exact qg4))) | (apply run_qg 5; (focus rfl); (focus exact wt); (focus rfl); (focus (exact qg5))) | (apply run_qg 6; (focus rfl); (focus exact wt); (focus rfl); (focus (exact qg6))) | refine cod_seq ?_ | refine cod_region ?_ | refine run_nil ?_ | refine pst_then ?_ | (apply cod_cond_t; (focus rfl)) | (apply cod_cond_f; (focus rfl)) | refine cod_block ?_ | refine cod_exit ?_ | refine cod_ret ?_ | refine cod_skip ?_ | refine pst_block_here ?_ | refine pst_block_out rfl ?_ | refine pst_block_ret ?_ | refine pst_then_exit ?_ | refine pst_then_ret ?_ | refine pst_block ?_ | (apply run_osg 8; (focus rfl); (focus exact wt); (focus rfl); (focus (exact opr_box_agg rfl rfl)); (rintro _ _ ⟨b, rfl, rfl⟩)) | (apply run_osg 8; (focus rfl); (focus exact wt); (focus rfl); (focus (exact opr_box_one rfl rfl rfl)); (rintro _ _ ⟨b, rfl, rfl⟩)) | (apply run_osg 8; (focus rfl); (focus exact wt); (focus rfl); (focus (exact opr_new rfl)); (rintro _ _ ⟨b, rfl, rfl⟩)) | (apply run_ong 9; (focus rfl); (focus exact wt); (focus (exact opr_store_box_agg rfl rfl rfl (by exact pka) rfl rfl rfl (by exact spla))); (rintro _ _ ⟨rfl, rfl⟩)) | (apply run_ong 9; (focus rfl); (focus exact wt); (focus (exact opr_store_box_one rfl rfl rfl rfl (by exact pka) rfl (by exact seta))); (rintro _ _ ⟨rfl, rfl⟩)) | (apply run_osg 10; (focus rfl); (focus exact wt); (focus rfl); (focus (exact opr_buildSlice rfl rfl rfl (by exact blda) rfl rfl (by decide) rfl)); (rintro _ _ ⟨q, rfl, rfl⟩)) | (apply run_offs; (focus rfl); (focus rfl); (focus rfl)) | (apply run_offn; (focus rfl); (focus rfl))) | (apply run_osg 7; (focus rfl); (focus exact wt); (focus rfl); (focus (first | exact opr_call_ls (by rfl) (IX ..) (by rfl) (by exact lpa) | exact opr_call_s (by rfl) (IX ..) (by rfl) (by exact pca))); (rintro _ _ ⟨rfl, rfl⟩)) | ((first | (apply run_lss; (rotate_left 2); (focus rfl)) | (apply run_leq; (rotate_left 2); (focus rfl)) | (apply run_gtr; (rotate_left 2); (focus rfl)) | (apply run_geq; (rotate_left 2); (focus rfl)) | (apply run_eql; (rotate_left 2); (focus rfl)) | (apply run_neq; (rotate_left 2); (focus rfl)) | (apply run_seq; (rotate_left 2); (focus rfl)) | (apply run_sneq; (rotate_left 2); (focus rfl))); (focus rfl); (focus rfl); (rotate_right 2); (focus exact wt); (focus rfl); (all_goals (intro h; dsimp only [upd])))))
    exact pst_fin rfl (by exact resa) _ (⟨by rw [decide_eq_true hp], rfl⟩) (by exact hsa)
  · have h0 : ixOf p xs < 0 := by omega
    (refine spec_enter Try.func35 Try.ntmps35 rfl rfl fun Fr => ?_; dsimp only [List.cons_append, List.nil_append, ini, Nat.reduceAdd])
    (repeat' (first | (first | (apply run_qg 1; (focus rfl); (focus exact wt); (focus rfl); (focus (exact qg1))) | (apply run_qg 2; (focus rfl); (focus exact wt); (focus rfl); (focus (exact qg2))) | (apply run_qg 3; (focus rfl); (focus exact wt); (focus rfl); (focus (exact qg3))) | (apply run_qg 4; (focus rfl); (focus exact wt); (focus rfl); (focus (exact qg4))) | (apply run_qg 5; (focus rfl); (focus exact wt); (focus rfl); (focus (exact qg5))) | (apply run_qg 6; (focus rfl); (focus exact wt); (focus rfl); (focus (exact qg6))) | refine cod_seq ?_ | refine cod_region ?_ | refine run_nil ?_ | refine pst_then ?_ | (apply cod_cond_t; (focus rfl)) | (apply cod_cond_f; (focus rfl)) | refine cod_block ?_ | refine cod_exit ?_ | refine cod_ret ?_ | refine cod_skip ?_ | refine pst_block_here ?_ | refine pst_block_out rfl ?_ | refine pst_block_ret ?_ | refine pst_then_exit ?_ | refine pst_then_ret ?_ | refine pst_block ?_ | (apply run_osg 8; (focus rfl); (focus exact wt); (focus rfl); (focus (exact opr_box_agg rfl rfl)); (rintro _ _ ⟨b, rfl, rfl⟩)) | (apply run_osg 8; (focus rfl); (focus exact wt); (focus rfl); (focus (exact opr_box_one rfl rfl rfl)); (rintro _ _ ⟨b, rfl, rfl⟩)) | (apply run_osg 8; (focus rfl); (focus exact wt); (focus rfl); (focus (exact opr_new rfl)); (rintro _ _ ⟨b, rfl, rfl⟩)) | (apply run_ong 9; (focus rfl); (focus exact wt); (focus (exact opr_store_box_agg rfl rfl rfl (by exact pka) rfl rfl rfl (by exact spla))); (rintro _ _ ⟨rfl, rfl⟩)) | (apply run_ong 9; (focus rfl); (focus exact wt); (focus (exact opr_store_box_one rfl rfl rfl rfl (by exact pka) rfl (by exact seta))); (rintro _ _ ⟨rfl, rfl⟩)) | (apply run_osg 10; (focus rfl); (focus exact wt); (focus rfl); (focus (exact opr_buildSlice rfl rfl rfl (by exact blda) rfl rfl (by decide) rfl)); (rintro _ _ ⟨q, rfl, rfl⟩)) | (apply run_offs; (focus rfl); (focus rfl); (focus rfl)) | (apply run_offn; (focus rfl); (focus rfl))) | (apply run_osg 7; (focus rfl); (focus exact wt); (focus rfl); (focus (first | exact opr_call_ls (by rfl) (IX ..) (by rfl) (by exact lpa) | exact opr_call_s (by rfl) (IX ..) (by rfl) (by exact pca))); (rintro _ _ ⟨rfl, rfl⟩)) | ((first | (apply run_lss; (rotate_left 2); (focus rfl)) | (apply run_leq; (rotate_left 2); (focus rfl)) | (apply run_gtr; (rotate_left 2); (focus rfl)) | (apply run_geq; (rotate_left 2); (focus rfl)) | (apply run_eql; (rotate_left 2); (focus rfl)) | (apply run_neq; (rotate_left 2); (focus rfl)) | (apply run_seq; (rotate_left 2); (focus rfl)) | (apply run_sneq; (rotate_left 2); (focus rfl))); (focus rfl); (focus rfl); (rotate_right 2); (focus exact wt); (focus rfl); (all_goals (intro h; dsimp only [upd])))))
    exact pst_fin rfl (by exact resa) _ (⟨by rw [decide_eq_false hp], rfl⟩) (by exact hsa)

end Go.Proofs.Ytcaefeooneomnaa.sleq
