/-
  The small separation logic: rows of which all the room is shown. Nothing here speaks of the program.
-/
import Derived.Test.YtcbpeampjhegcaaSlStr3
import Derived.Lib.SliceRun
namespace Go.Proofs.Ytcbpeampjhegcaa.sl
open Go.RowKit kit
set_option linter.unusedVariables false
theorem own_whole {w : World} {e sz n c : Nat} {q : Option Addr} {xs : List Value} (h : w.ownsRow 0 e sz (.slice q n c) n xs) : ∃ raw, w.ownsRow 0 e sz (.slice q c c) c raw ∧ raw.length = c * sz ∧ n ≤ c ∧ c ≤ maxLen ∧ (c = 0 ∨ ∃ g, q = some ⟨g, 0, none⟩) := by
  rcases h.2 with ⟨hv, h0⟩ | ⟨g, cap, cur, hv, hb, hg, h2, h3, h4, h5⟩
  · cases hv
    exact ⟨[], ⟨by simp, .inl ⟨rfl, rfl⟩⟩, by simp, Nat.le_refl _, Nat.zero_le _, .inl rfl⟩
  · cases hv
    have hl : cur.toList.length = c * sz := by simpa using h4
    exact ⟨cur.toList, ⟨hl, .inr ⟨g, c, cur, rfl, hb, hg, Nat.le_refl _, h3, h4, List.take_of_length_le (by omega)⟩⟩, hl, h2, h3, .inr ⟨g, rfl⟩⟩
theorem ownsRow_len {w : World} {e sz m : Nat} {v : Value} {xs : List Value} (h : w.ownsRow 0 e sz v m xs) : xs.length = m * sz := h.1
section
variable {P : Program} {n : Nat} {F : Frm} {H R : List Ent} {o : Oper} {x y z : Operand} {v u z' : Value} {T S : TypeId}
/-- all the room of a row is shown -/
theorem ct_whole {f : FuncId} {args : List Value} {H : List Ent} {Rs : Value → List Ent → Prop} {e sz m c : Nat} {q : Option Addr} {xs : List Value} (k : ∀ raw, raw.length = c * sz → m ≤ c → c ≤ maxLen → (c = 0 ∨ ∃ g, q = some ⟨g, 0, none⟩) → Ct P f args (own (.slice q c c) e sz c raw :: H) Rs) : Ct P f args (own (.slice q m c) e sz m xs :: H) Rs :=
  ⟨fun Fr w hw => by
    obtain ⟨raw, h1, h2, h3, h4, h5⟩ := own_whole (hw.head : w.ownsRow 0 e sz (.slice q m c) m xs)
    refine (k raw h2 h3 h4 h5).go Fr w ?_
    exact HeapOk.upd hw rfl (Moved.refl _ _) h1 fun b hb => .inl (by
      have hb2 : (Value.slice q c c).ownBlock = some b := hb
      show (Value.slice q m c).ownBlock = some b
      cases q <;> exact hb2)⟩
theorem View.front {S R : List Ent} {e sz c : Nat} {q : Option Addr} {α : Type} {f : α → List Value} {xs ts : List α} (p : Pick (sl.own (Value.slice q c c) e sz c (flat f (xs ++ ts))) S R) (hf : ∀ y, (f y).length = sz) (hc : c = (xs ++ ts).length) : View S (sl sz (.slice q xs.length c) (xs.map f)) := by
  have h0 := View.own p hf hc
  refine ⟨rfl, fun w hw => ?_, fun b hb => ⟨_, p.mem, by
    have h2 := hb.2
    cases q <;> exact h2⟩⟩
  have h1 := sl_part (h0.holds w hw) (m := xs.length) (by simp)
  rwa [List.take_left' rfl] at h1
theorem run_make_room {t e sz by' : Nat} {agg : Bool} (ht : Sli P t e) (hs : Ty P e agg sz by' z') (kl kc : IntKind) (c : Nat) (hb : by' * c ≤ 281474976710656) (h63 : c ≤ maxLen) (w : World) : (Instr.makeSlice t (.int kl 0) (.int kc (c : Int))).run P w = .ok (.slice (some ⟨w.heap.size, 0, none⟩) 0 c) (w.alloc (.cells (zrow z' c).toArray e)) := by
  obtain ⟨i, d, hi, _, _, h1, h2, h3⟩ := hs.info
  have h63' : (c : Int) ≤ 9223372036854775807 := by
    have h := h63
    simp [maxLen] at h
    omega
  have hb' : (i.bytes : Int) * (c : Int) ≤ 281474976710656 := by
    rw [h2]
    have h : ((by' * c : Nat) : Int) ≤ 281474976710656 := by omega
    rwa [Int.natCast_mul] at h
  have hr := run_make (P := P) w t e i z' ht.h hi h3 kl kc 0 c (by omega) (by omega) hb' h63'
  simp only [Int.toNat_natCast] at hr
  rw [hr, h1, ← zrow_eq hs.hz c]
  rfl
/-- 'make([]T, 0, n)': all its room shown -/
theorem opr_make_room {t e sz by' : Nat} {agg : Bool} [ht : Sli P t e] [hs : Ty P e agg sz by' z'] {α : Type} (f : α → List Value) (z0 : α) {kl kc : IntKind} {j : Int} {c : Nat} (ho : o.op = .makeSlice t x y) (hx : ev F x = some (.int kl 0)) (hy : ev F y = some (.int kc j)) (hj : j = (c : Int)) (hz : z'.cells = (f z0).toArray) (hf : (f z0).length = sz) (hb : by' * c ≤ 281474976710656) (h63 : c ≤ maxLen) :
    Opr P n o F H fun u H' => ∃ g, u = .slice (some ⟨g, 0, none⟩) 0 c ∧ H' = own (.slice (some ⟨g, 0, none⟩) c c) e sz c (flat f (List.replicate c z0)) :: H := fun Q a w next ha hw hn => by
  subst hj
  unfold Oper.wp
  simp only [execOp, ho, ha.eval hx, ha.eval hy, Sem.run_bind, run_make_room ht hs kl kc c hb h63 w, Result.andThen_ok, Sem.run_pure, Oper.upon]
  have hl : (zrow z' c).length = c * sz := by
    rw [flat_replicate hz]
    have : ∀ c, (flat f (List.replicate c z0)).length = c * sz := by
      intro c
      simp [flat, List.length_flatten, hf]
    exact this c
  refine hn _ _ _ ⟨w.heap.size, rfl, rfl⟩ (HeapOk.new hw (moved_alloc w (.cells (zrow z' c).toArray e)) ?_ fun b hb => ?_)
  · rw [← flat_replicate hz]
    exact ⟨hl, .inr ⟨w.heap.size, c, (zrow z' c).toArray, rfl, Nat.zero_le _, heap_alloc_new _ _, Nat.le_refl _, h63, by simpa using hl, by simp [← hl]⟩⟩
  · have : w.heap.size = b := Option.some.inj hb
    omega
theorem flat_appL {α : Type} (f : α → List Value) (xs ys : List α) : flat f (xs ++ ys) = flat f xs ++ flat f ys := by simp [flat]
/-- 'append(s, x...)' where s has room -/
theorem opr_append_room {t e sz by' g m c : Nat} {agg : Bool} [ht : Sli P t e] [hs : Ty P e agg sz by' z'] {α : Type} {f : α → List Value} {ys zs ws : List α} (ho : o.op = .call { callee := .builtin .append, args := #[x, y], argTypes := #[t, t] }) (hx : ev F x = some (.slice (some ⟨g, 0, none⟩) m c)) (hy : ev F y = some u)
    (p : Pick (own (.slice (some ⟨g, 0, none⟩) c c) e sz c (flat f (ws ++ zs))) H R) {S : List Ent} (q : Pick (sl sz u (ys.map f)) R S) (hf : ∀ y, (f y).length = sz) (hf1 : ∀ y, ∀ u ∈ f y, u.oneCell' = true) (hsz : Nat.blt 0 sz = true) (hm : m = ws.length) (hc : c = ws.length + zs.length) (hr : ys.length ≤ zs.length) :
    Opr P n o F H fun r H' => r = .slice (some ⟨g, 0, none⟩) (m + ys.length) c ∧ H' = own (.slice (some ⟨g, 0, none⟩) c c) e sz c (flat f (ws ++ ys ++ zs.drop ys.length)) :: R := fun Q a w next ha hw hn => by
  have hw' := hw.perm p.perm
  have hT := sliceTy_of ht hs hsz
  obtain ⟨h1, h2, h3, i, hi1, hi2, hi3, hi4⟩ := hT
  have hsl : SliceAt w sz u (ys.map f) := hw'.tail.1 _ q.mem
  have hown : w.ownsRow 0 e sz (.slice (some ⟨g, 0, none⟩) c c) c (flat f (ws ++ zs)) := hw'.head
  rcases hown.2 with ⟨hv, _⟩ | ⟨g', cap, cur, hv, hb0, hg, k2, k3, k4, k5⟩
  · cases hv
  · cases hv
    have hcl : cur.toList.length = c * sz := by simpa using k4
    rw [List.take_of_length_le (by omega)] at k5
    have fl : ∀ l : List α, (flat f l).length = l.length * sz := fun l => flat_len f sz hf l
    rcases hsl with ⟨h9, hv⟩ | ⟨b, off, cp, rfl, _, _, _, _, hrows⟩
    · have h0 : ys = [] := by simpa using h9
      subst h0
      have hrun : (Builtin.append_ #[t, t] o.type #[.slice (some ⟨g, 0, none⟩) m c, u]).run P w = .ok (.slice (some ⟨g, 0, none⟩) m c) w := by
        have hmc : m ≤ c := by omega
        rcases hv with rfl | ⟨ad, cap, rfl⟩ <;>
          simp [Builtin.append_, run_underlying h1, sizeOf, typeInfo, hi1, Builtin.lenOf, Builtin.firstCells, hmc, storeCells, loadCells, loadCellsFrom]
      unfold Oper.wp
      simp only [execOp, ho, resolve, invoke, builtin, List.map_toArray, List.map_cons, List.map_nil, ha.eval hx, ha.eval hy, Sem.run_bind, Sem.run_pure, Result.andThen_ok, hrun, Oper.upon]
      exact hn _ _ _ ⟨rfl, rfl⟩ (by simpa using hw')
    · simp only [List.length_map] at hy
      have hnews : ∀ j y, (flat f ys)[j]? = some y → w.cell? ((⟨b, off, none⟩ : Addr).add j) = some y := by
        intro j y hj
        have hjl := (List.getElem?_eq_some_iff.1 hj).1
        rw [fl] at hjl
        have hi : j / sz < ys.length := (Nat.div_lt_iff_lt_mul h3).2 hjl
        have hm : j % sz < sz := Nat.mod_lt _ h3
        obtain ⟨y0, hy0⟩ : ∃ y0, ys[j / sz]? = some y0 := ⟨_, List.getElem?_eq_getElem hi⟩
        obtain ⟨u, hu⟩ : ∃ u, (f y0)[j % sz]? = some u := ⟨_, List.getElem?_eq_getElem (by rw [hf]; exact hm)⟩
        have hat := flat_at f sz hf ys (j / sz) y0 hy0 (j % sz) u hu
        have hdm : j / sz * sz + j % sz = j := by rw [Nat.mul_comm]; exact Nat.div_add_mod j sz
        rw [hdm, hj] at hat
        have hyu := Option.some.inj hat
        subst hyu
        have hcell := (hrows (j / sz) (f y0) (by rw [List.getElem?_map, hy0]; rfl)).2 (j % sz) y hu
        rw [addr_add, ← hdm, ← Nat.add_assoc]
        exact hcell
      have hone : ∀ u ∈ flat f ys, u.oneCell' = true := by
        intro u hu
        unfold flat at hu
        obtain ⟨l, hl, hul⟩ := List.mem_flatten.1 hu
        obtain ⟨y, _, rfl⟩ := List.mem_map.1 hl
        exact hf1 y u hul
      have hll : (flat f ys).length = ys.length * i.size := by rw [fl, hi3]
      have hfit : m * i.size + (flat f ys).length ≤ cur.size := by rw [hll, k4, hi3, ← Nat.add_mul]; exact Nat.mul_le_mul_right _ (by omega)
      have hrun := run_append_room (P := P) w t o.type e i h1 hi1 g m c cur hg ⟨b, off, none⟩ ys.length cp (flat f ys) hll hnews hone (by omega) hfit
      unfold Oper.wp
      simp only [execOp, ho, resolve, invoke, builtin, List.map_toArray, List.map_cons, List.map_nil, ha.eval hx, ha.eval hy, Sem.run_bind, Sem.run_pure, Result.andThen_ok, hrun, Oper.upon]
      have key : (cur.toList.take (m * i.size) ++ flat f ys ++ cur.toList.drop (m * i.size + (flat f ys).length)) = flat f (ws ++ ys ++ zs.drop ys.length) := by
        rw [k5, hi3, hm, flat_appL, ← fl ws, List.take_left' rfl, List.drop_append, Nat.add_sub_cancel_left, List.drop_of_length_le (by omega), List.nil_append, flat_appL, flat_appL]
        congr 1
        have e1 : flat f zs = flat f (zs.take ys.length) ++ flat f (zs.drop ys.length) := by rw [← flat_appL, List.take_append_drop]
        rw [e1, List.drop_left']
        rw [fl, fl, List.length_take]
        congr 1
        omega
      rw [key]
      refine hn _ _ _ ⟨rfl, rfl⟩ (HeapOk.upd hw' rfl (moved_setRow w g _ _ rfl) ⟨?_, .inr ⟨g, c, _, rfl, hb0, setRow_heap w g _ _ e _ hg, k2, k3, ?_, ?_⟩⟩ fun k hk => .inl hk)
      · rw [fl]; simp only [List.length_append, List.length_drop]; congr 1; omega
      · simp only [List.size_toArray]; rw [fl]; simp only [List.length_append, List.length_drop]; congr 1; omega
      · refine List.take_of_length_le ?_
        show (flat f (ws ++ ys ++ zs.drop ys.length)).length ≤ _
        rw [fl]; simp only [List.length_append, List.length_drop]; exact Nat.mul_le_mul_right _ (by omega)
/-- 's[:k]', k up to the room -/
theorem q_slice_cap {t e sz by' N c m : Nat} {agg : Bool} {q : Option Addr} {k : IntKind} {j : Int} [ht : Sli P t e] [hs : Ty P e agg sz by' z'] (ho : o.op = .slice t x none (some y) none) (hx : ev F x = some (.slice q N c)) (hy : ev F y = some (.int k j)) (hj : j = (m : Int)) (hm : m ≤ c) : Qt P n o F H (.slice q m c) := fun a w ha hw => by
  subst hj
  have he : P.elem t = e := by simp [Program.elem, ht.h]
  have hu : P.underlying t = some (.slice (P.elem t)) := by rw [he]; exact ht.h
  have h1 := run_slice_h (P := P) w t q N c hu k (m : Int) (by omega) (by omega)
  rw [he, sizeOf_run hs] at h1
  have hv : sliced q 0 ((m : Int)).toNat c sz = .slice q m c := by
    simp [sliced, Addr.add]
  simp only [Result.andThen_ok, hv] at h1
  simp only [execOp, ho, Option.map_some, Option.map_none, ha.eval hx, ha.eval hy, Sem.run_bind, Sem.run_pure, run_sliceAt_slice w t _ _ _ _ hu, h1, Result.andThen_ok]
/-- 's[len(s):cap(s)]' -/
theorem q_slice_rest {t e sz by' N c m : Nat} {agg : Bool} {ad : Addr} {k k' : IntKind} {i j : Int} [ht : Sli P t e] [hs : Ty P e agg sz by' z'] (ho : o.op = .slice t x (some y) (some z) none) (hx : ev F x = some (.slice (some ad) N c)) (hy : ev F y = some (.int k i)) (hz : ev F z = some (.int k' j)) (hi : i = (N : Int)) (hj : j = (c : Int)) (hc : c = N + m) (hm : 0 < m) : Qt P n o F H (.slice (some (ad.add (N * sz))) m m) := fun a w ha hw => by
  subst hi
  subst hj
  have he : P.elem t = e := by simp [Program.elem, ht.h]
  have hu : P.underlying t = some (.slice (P.elem t)) := by rw [he]; exact ht.h
  have h1 := run_slice_lh (P := P) w t (some ad) N c hu k k' (N : Int) (c : Int) (by omega) (by omega) (by omega)
  rw [he, sizeOf_run hs] at h1
  have hv : sliced (some ad) ((N : Int)).toNat ((c : Int)).toNat c sz = .slice (some (ad.add (N * sz))) m m := by
    unfold sliced
    rw [Int.toNat_natCast, Int.toNat_natCast, if_neg (by omega), show c - N = m from by omega]
    rfl
  simp only [Result.andThen_ok, hv] at h1
  simp only [execOp, ho, Option.map_some, Option.map_none, ha.eval hx, ha.eval hy, ha.eval hz, Sem.run_bind, Sem.run_pure, run_sliceAt_slice w t _ _ _ _ hu, h1, Result.andThen_ok]
/-- an element, by a slice of the row -/
theorem q_index_raw {t e sz i m c g N N' by' : Nat} {k : IntKind} {idx : Int} {agg : Bool} [ht : Sli P t e] [hs : Ty P e agg sz by' z'] (ho : o.op = .indexAddr t x y) (hx : ev F x = some (.slice (some ⟨g, 0, none⟩) N N')) (hy : ev F y = some (.int k idx)) (hidx : idx = (i : Int)) (hi : i < N) : Qt P n o F H (eptr (.slice (some ⟨g, 0, none⟩) m c) i sz 0) := fun a w ha hw => by
  subst hidx
  simp only [execOp, ho, ha.eval hx, ha.eval hy, Sem.run_bind, Sem.run_pure, Result.andThen_ok, index_run (P := P) (t := t) hi, eptr, eaddr, Nat.add_zero]
/-- a part of what is read, from a place on -/
theorem sl_rest {w : World} {sz N c k : Nat} {ad : Addr} {rows : List (List Value)} (h : SliceAt w sz (.slice (some ad) N c) rows) (hk : k < rows.length) (hs : ad.spot = none) : SliceAt w sz (.slice (some (ad.add (k * sz))) (N - k) (c - k)) (rows.drop k) := by
  obtain ⟨b, off, s⟩ := ad
  simp only at hs
  subst hs
  rcases h with ⟨h0, h1⟩ | ⟨b', off', cap, hv, h2, h3, h4, h5, h6⟩
  · rw [h0] at hk; cases hk
  · cases hv
    refine .inr ⟨b, off + k * sz, c - k, ?_, by rw [List.length_drop]; omega, by omega, by rw [List.length_drop]; omega, h5, fun i r hr => ?_⟩
    · rw [addr_add, List.length_drop]
    · rw [List.getElem?_drop] at hr
      have h7 := h6 (k + i) r hr
      refine ⟨h7.1, fun j u hu => ?_⟩
      have h8 := h7.2 j u hu
      rw [← h8]
      congr 2
      rw [Nat.add_mul]
      omega
theorem sl_tail {sz N c k : Nat} {ad : Addr} {rows : List (List Value)} (p : Pick (sl sz (.slice (some ad) N c) rows) H R) (hk : k < rows.length) (hs : ad.spot = none) : HSub H (sl sz (.slice (some (ad.add (k * sz))) (N - k) (c - k)) (rows.drop k) :: H) := fun w hw =>
  hw.shared rfl (sl_rest (hw.1 _ p.mem) hk hs) fun b hb => ⟨_, p.mem, rfl, fun e => hb.1 (by rw [e]; simp), by
    obtain ⟨b0, off, s⟩ := ad
    simp only at hs
    subst hs
    have h2 := hb.2
    rw [addr_add] at h2
    exact h2⟩
/-- a row that is filled from the left with one and the same -/
theorem splice_spoil {α : Type} (f : α → List Value) (x : α) {sz c k : Nat} {raw : List Value} (hf : (f x).length = sz) (hr : raw.length = c * sz) (hk : k < c) : splice (flat f (List.replicate k x) ++ raw.drop (k * sz)) (k * sz + 0) (f x) = flat f (List.replicate (k + 1) x) ++ raw.drop ((k + 1) * sz) := by
  have hl : (flat f (List.replicate k x)).length = k * sz := by simp [flat, List.length_flatten, hf]
  have hc : (k + 1) * sz ≤ c * sz := Nat.mul_le_mul_right _ hk
  rw [Nat.add_mul, Nat.one_mul] at hc
  rw [splice_eq _ _ _ (by simp only [List.length_append, List.length_drop, hl, hr, hf]; omega), Nat.add_zero, List.take_left' hl]
  have e1 : flat f (List.replicate (k + 1) x) = flat f (List.replicate k x) ++ f x := by
    simp [flat, List.replicate_succ', List.map_append]
  rw [e1, List.drop_append, List.drop_of_length_le (by omega), List.nil_append, List.drop_drop, hl, hf]
  congr 2
  rw [Nat.add_mul, Nat.one_mul]
  omega
theorem q_slice_isnil {t e m c m' c' : Nat} {q : Option Addr} {T' : TypeId} [ht : Sli P t e] (ho : o.op = .binOp .eql t x y T') (hx : ev F x = some (.slice q m c)) (hy : ev F y = some (.slice none m' c')) : Qt P n o F H (.bool q.isNone) := fun a w ha hw => by
  have h := Lib.run_eql_slice_nil (P := P) w t e q m c m' c' ht.h
  simp [execOp, ho, ha.eval hx, ha.eval hy, eqGuard, h]
/-- the place of a field of one cell -/
def fieldOne (P : Program) (s : TypeId) (f : Nat) : Option Nat :=
  match P.underlying s with
  | some (.struct fs) => match fs[f]? with
    | some d => match P.underlying d.type with
      | some e => if isAggD e = true then none else some d.offset
      | none => none
    | none => none
  | _ => none
/-- a field of a struct that is a value -/
theorem q_fieldv {f off : Nat} {us : List Value} (ho : o.op = .field T x f) (hf : fieldOne P T f = some off) (hx : ev F x = some (.agg us.toArray)) (hu : us[off]? = some v) : Qt P n o F H v := fun a w ha hw => by
  unfold fieldOne at hf
  split at hf
  · rename_i fs hs
    split at hf
    · rename_i d hd
      split at hf
      · rename_i e he
        split at hf
        · cases hf
        · rename_i hag
          have hoff : d.offset = off := by cases hf; rfl
          subst hoff
          have hisa : (isAgg d.type).run P w = .ok false w := by
            simp only [isAgg, Sem.run_bind, run_underlying he, Result.andThen_ok]
            cases e <;> first | rfl | exact absurd rfl hag
          simp only [execOp, ho, ha.eval hx, Instr.field, Sem.run_bind, run_underlying hs, Result.andThen_ok, hd, asAgg, Sem.run_pure, part, hisa]
          simp [hu]
      · cases hf
    · cases hf
  · cases hf
/-- '[]T{}' -/
theorem opr_empty {t e sz by' : Nat} {agg : Bool} [ht : Sli P t e] [hs : Ty P e agg sz by' z'] (ho : o.op = .buildSlice t 0 #[]) : Opr P n o F H fun u H' => ∃ g, u = .slice (some ⟨g, 0, none⟩) 0 0 ∧ H' = own (.slice (some ⟨g, 0, none⟩) 0 0) e sz 0 [] :: H := fun Q a w next ha hw hn => by
  have hrun : (Instr.buildSlice t 0 ((#[] : Array (Nat × Operand)).map fun (i, x) => (i, a.eval x))).run P w = .ok (.slice (some ⟨w.heap.size, 0, none⟩) 0 0) (w.alloc (.cells #[] e)) := by
    have e0 : ∀ g : Nat → Value, Instr.fill (fun i => some (i * sz, sz)) (Array.map g (Array.range 0)) [] = some #[] := fun g => by simp [Instr.fill]
    simp [Instr.buildSlice, Sem.run_bind, run_underlying ht.h, Result.andThen_ok, sizeOf_run hs]
    rw [e0]
    rfl
  unfold Oper.wp
  simp only [execOp, ho, Sem.run_bind, hrun, Result.andThen_ok, Sem.run_pure, Oper.upon]
  refine hn _ _ _ ⟨w.heap.size, rfl, rfl⟩ (HeapOk.new hw (moved_alloc w (.cells #[] e)) ⟨by simp, .inr ⟨w.heap.size, 0, #[], rfl, Nat.zero_le _, heap_alloc_new _ _, Nat.le_refl _, Nat.zero_le _, by simp, by simp⟩⟩ fun b hb => ?_)
  have : w.heap.size = b := Option.some.inj hb
  omega
/-- what is read is nil, or it is not -/
theorem ct_sl_nil {f : FuncId} {args : List Value} {H : List Ent} {Rs : Value → List Ent → Prop} {sz m c : Nat} {q : Option Addr} {rows : List (List Value)} (k0 : q = none → c = 0 → rows = [] → Ct P f args (sl sz (.slice q m c) rows :: H) Rs) (k1 : (∃ ad, q = some ad) → Ct P f args (sl sz (.slice q m c) rows :: H) Rs) : Ct P f args (sl sz (.slice q m c) rows :: H) Rs :=
  ⟨fun Fr w hw => by
    cases q with
    | some ad => exact (k1 ⟨ad, rfl⟩).go Fr w hw
    | none =>
      have h : SliceAt w sz (.slice none m c) rows := hw.head
      rcases h with ⟨h0, h1 | ⟨a, cap, h1⟩⟩ | ⟨b, off, cap, h1, _⟩
      · cases h1
        exact (k0 rfl rfl h0).go Fr w hw
      · cases h1
      · cases h1⟩
theorem take_set_one {α : Type} {W : List α} {i : Nat} {b : α} (h : i < W.length) : (W.set i b).take (i + 1) = W.take i ++ [b] := by
  apply List.ext_getElem?
  intro k
  simp only [List.getElem?_take, List.getElem?_append, List.length_take, List.getElem?_set]
  repeat' split
  all_goals first | rfl | omega | skip
  all_goals (first | (rw [show k - min i W.length = 0 from by omega]; rfl) | (rw [List.getElem?_eq_none (by simp; omega)]))
end
end Go.Proofs.Ytcbpeampjhegcaa.sl
