/-
  The small separation logic: pieces of a row copied, appended, cleared; the library's entry slices.overlaps. Nothing here speaks of the program.
-/
import Derived.Test.YtcbpeampjhegcaaSlCallV
import Derived.Test.YtcbpeampjhegcaaSlOwn
import Derived.Lib.Overlaps
import Derived.Lib.AppendZerosOnto
namespace Go.Proofs.Ytcbpeampjhegcaa.sl
open Go.RowKit kit
set_option linter.unusedVariables false
theorem own_front {H : List Ent} {q : Option Addr} {e sz m c : Nat} {raw xs : List Value} (hm : m ≤ c) (hx : raw.take (m * sz) = xs) : HSub (own (.slice q c c) e sz c raw :: H) (own (.slice q m c) e sz m xs :: H) := fun w hw => by
  subst hx
  have h : w.ownsRow 0 e sz (.slice q c c) c raw := hw.head
  refine HeapOk.lesser hw (fun _ => rfl) (?_ : w.ownsRow 0 e sz (.slice q m c) m _) fun b hb => by
    have hb2 : (Value.slice q m c).ownBlock = some b := hb
    show (Value.slice q c c).ownBlock = some b
    cases q <;> exact hb2
  have hl : raw.length = c * sz := h.1
  have hmc : m * sz ≤ c * sz := Nat.mul_le_mul_right _ hm
  rcases h.2 with ⟨hv, h0⟩ | ⟨g, cap, cur, hv, hb, hg, h2, h3, h4, h5⟩
  · cases hv
    have : m = 0 := by omega
    subst this
    exact ⟨by simp, .inl ⟨rfl, rfl⟩⟩
  · cases hv
    refine ⟨by rw [List.length_take]; omega, .inr ⟨g, c, cur, rfl, hb, hg, hm, h3, h4, ?_⟩⟩
    rw [← h5, List.take_take, Nat.min_eq_left hmc]
theorem own_all {w : World} {e sz n c : Nat} {q : Option Addr} {xs : List Value} (h : w.ownsRow 0 e sz (.slice q n c) n xs) : ∃ raw, w.ownsRow 0 e sz (.slice q c c) c raw ∧ raw.length = c * sz ∧ raw.take (n * sz) = xs ∧ n ≤ c ∧ c ≤ maxLen := by
  rcases h.2 with ⟨hv, h0⟩ | ⟨g, cap, cur, hv, hb, hg, h2, h3, h4, h5⟩
  · cases hv
    have hx : xs = [] := List.eq_nil_of_length_eq_zero (by rw [h.1]; simp)
    exact ⟨[], ⟨by simp, .inl ⟨rfl, rfl⟩⟩, by simp, by rw [hx]; simp, Nat.le_refl _, Nat.zero_le _⟩
  · cases hv
    have hl : cur.toList.length = c * sz := by simpa using h4
    exact ⟨cur.toList, ⟨hl, .inr ⟨g, c, cur, rfl, hb, hg, Nat.le_refl _, h3, h4, List.take_of_length_le (by omega)⟩⟩, hl, h5, h2, h3⟩
section
variable {P : Program} {Q : Post} {n : Nat} {F : Frm} {H R : List Ent} {o : Oper} {x y z : Operand} {v u z' : Value} {T S : TypeId}
theorem cod_whole {cd : Code} {q : Option Addr} {e sz m c : Nat} {xs : List Value} (p : Pick (own (.slice q m c) e sz m xs) H R) (k : ∀ raw, raw.length = c * sz → raw.take (m * sz) = xs → m ≤ c → c ≤ maxLen → Cod P Q n cd F (own (.slice q c c) e sz c raw :: R)) : Cod P Q n cd F H := fun a w ha hw => by
  have hw' := hw.perm p.perm
  obtain ⟨raw, h1, h2, h3, h4, h5⟩ := own_all (hw'.head : w.ownsRow 0 e sz (.slice q m c) m xs)
  refine k raw h2 h3 h4 h5 a w ha ?_
  exact HeapOk.upd hw' rfl (Moved.refl _ _) h1 fun b hb => .inl (by
    have hb2 : (Value.slice q c c).ownBlock = some b := hb
    show (Value.slice q m c).ownBlock = some b
    cases q <;> exact hb2)
theorem run_whole {ops : Array Oper} {l : List Oper} {q : Option Addr} {e sz m c : Nat} {xs : List Value} (p : Pick (own (.slice q m c) e sz m xs) H R) (k : ∀ raw, raw.length = c * sz → raw.take (m * sz) = xs → m ≤ c → c ≤ maxLen → Run P ops Q n l F (own (.slice q c c) e sz c raw :: R)) : Run P ops Q n l F H := fun a w ha hw => by
  have hw' := hw.perm p.perm
  obtain ⟨raw, h1, h2, h3, h4, h5⟩ := own_all (hw'.head : w.ownsRow 0 e sz (.slice q m c) m xs)
  refine k raw h2 h3 h4 h5 a w ha ?_
  exact HeapOk.upd hw' rfl (Moved.refl _ _) h1 fun b hb => .inl (by
    have hb2 : (Value.slice q c c).ownBlock = some b := hb
    show (Value.slice q m c).ownBlock = some b
    cases q <;> exact hb2)
theorem ct_own_whole {f : FuncId} {args : List Value} {Rs : Value → List Ent → Prop} {q : Option Addr} {e sz m c : Nat} {xs : List Value} {H : List Ent} (k : m ≤ c → c ≤ maxLen → (q = none ∧ c = 0 ∨ ∃ g, q = some ⟨g, 0, none⟩) → Ct P f args (own (.slice q m c) e sz m xs :: H) Rs) : Ct P f args (own (.slice q m c) e sz m xs :: H) Rs := ⟨fun Fr w hw => by
  have h : w.ownsRow 0 e sz (.slice q m c) m xs := hw.head
  rcases h.2 with ⟨hv, h0⟩ | ⟨g, cap, cur, hv, hb, hg, h2, h3, h4, h5⟩
  · cases hv
    exact (k (Nat.le_refl _) (Nat.zero_le _) (.inl ⟨rfl, rfl⟩)).go Fr w hw
  · cases hv
    exact (k h2 h3 (.inr ⟨g, rfl⟩)).go Fr w hw⟩
theorem run_copy_at {w : World} {dT sT ty elem : TypeId} {i : TypeInfo} (hu : P.underlying dT = some (.slice elem)) (hi : P.info? elem = some i) {g o1 dLen dCap : Nat} {a : Addr} {sLen sCap : Nat} {cur : Array Value} {t : TypeId} {cs : List Value} {k : Nat} (hg : w.heap[g]? = some (.cells cur t (0, 0))) (hk : Nat.min sLen dLen = k) (hn : cs.length = k * i.size)
    (hsrc : ∀ j v, cs[j]? = some v → w.cell? (a.add j) = some v) (hfit : o1 + cs.length ≤ cur.size) (h1 : ∀ v ∈ cs, v.oneCell' = true) :
    (Builtin.copy_ #[dT, sT] ty #[.slice (some ⟨g, o1, none⟩) dLen dCap, .slice (some a) sLen sCap]).run P w = .ok (goInt k) (w.setRow g (cur.toList.take o1 ++ cs ++ cur.toList.drop (o1 + cs.length)).toArray) := by
  have hf := run_firstCells_some (P := P) w i.size k a sLen sCap cs hn hsrc
  have hst := run_storeCells_at P g o1 t cs 0 cur w hg (by simpa using hfit) h1
  simp only [Nat.add_zero] at hst
  simp [Builtin.copy_, run_underlying hu, Builtin.lenOf, sizeOf, typeInfo, hi, hk, hf, hst]
theorem addr_shift (g a b : Nat) : (⟨g, a, none⟩ : Addr).add b = ⟨g, a + b, none⟩ := by simp [Addr.add]
theorem row_here {w : World} {e sz m c g : Nat} {xs : List Value} (h : w.ownsRow 0 e sz (.slice (some ⟨g, 0, none⟩) m c) m xs) : ∃ cur, w.heap[g]? = some (.cells cur e (0, 0)) ∧ m ≤ c ∧ c ≤ maxLen ∧ cur.size = c * sz ∧ cur.toList.take (m * sz) = xs := by
  rcases h.2 with ⟨hv, h0⟩ | ⟨g', cap, cur, hv, hb, hg, h2, h3, h4, h5⟩
  · cases hv
  · cases hv
    exact ⟨cur, hg, h2, h3, h4, h5⟩
/-- a whole row gets other cells -/
theorem own_setRow {w : World} {e sz c g : Nat} {raw raw' : List Value} {cur : Array Value} (hw : HeapOk (own (.slice (some ⟨g, 0, none⟩) c c) e sz c raw :: R) w) (hg : w.heap[g]? = some (.cells cur e (0, 0))) (hl : raw'.length = c * sz) : HeapOk (own (.slice (some ⟨g, 0, none⟩) c c) e sz c raw' :: R) (w.setRow g raw'.toArray) := by
  have h : w.ownsRow 0 e sz (.slice (some ⟨g, 0, none⟩) c c) c raw := hw.head
  obtain ⟨cur', hg', h2, h3, h4, h5⟩ := row_here h
  refine HeapOk.upd hw rfl (moved_setRow w g _ _ rfl) ?_ fun k hk => .inl hk
  exact ⟨hl, .inr ⟨g, c, _, rfl, Nat.zero_le _, setRow_heap w g _ _ e _ hg, Nat.le_refl _, h3, by simpa using hl, by rw [List.toList_toArray, List.take_of_length_le (by omega)]⟩⟩
theorem opr_copy_gen {T' e by' sz g o1 d1 c1 d2 c2 c k : Nat} {agg : Bool} {ad : Addr} {raw cs : List Value} [ht : Sli P T e] [hs : Ty P e agg sz by' z'] (ho : o.op = .call { callee := .builtin .copy, args := #[x, y], argTypes := #[T, T'] }) (hx : ev F x = some (.slice (some ⟨g, o1, none⟩) d1 c1)) (hy : ev F y = some (.slice (some ad) d2 c2))
    (p : Pick (own (.slice (some ⟨g, 0, none⟩) c c) e sz c raw) H R) (hk : Nat.min d2 d1 = k) (hcs : cs.length = k * sz) (hfit : o1 + k * sz ≤ c * sz) (hsrc : ∀ w, HeapOk (own (.slice (some ⟨g, 0, none⟩) c c) e sz c raw :: R) w → ∀ j v, cs[j]? = some v → w.cell? (ad.add j) = some v) (h1 : ∀ v ∈ cs, v.oneCell' = true) :
    Opr P n o F H fun r H' => r = .int .i64 (k : Int) ∧ H' = own (.slice (some ⟨g, 0, none⟩) c c) e sz c (raw.take o1 ++ cs ++ raw.drop (o1 + k * sz)) :: R := fun Q a w next ha hw hn => by
  have hw' := hw.perm p.perm
  have hown : w.ownsRow 0 e sz (.slice (some ⟨g, 0, none⟩) c c) c raw := hw'.head
  obtain ⟨cur, hg, h2, h3, h4, h5⟩ := row_here hown
  have hcl : cur.toList.length = c * sz := by simpa using h4
  have hcr : cur.toList = raw := by rw [← h5, List.take_of_length_le (by omega)]
  obtain ⟨it, dt, e1, _, _, e2, _, _⟩ := hs.info
  have hr := run_copy_at (P := P) (ty := o.type) (sT := T') ht.h e1 (dLen := d1) (dCap := c1) (sCap := c2) hg hk (by rw [e2]; exact hcs) (hsrc w hw') (by rw [hcs, h4]; exact hfit) h1
  rw [hcr, hcs] at hr
  unfold Oper.wp
  simp only [execOp, ho, resolve, invoke, builtin, List.map_toArray, List.map_cons, List.map_nil, ha.eval hx, ha.eval hy, Sem.run_bind, Sem.run_pure, Result.andThen_ok, hr, Oper.upon]
  refine hn _ _ _ ⟨rfl, rfl⟩ (own_setRow hw' hg ?_)
  have hrl : raw.length = c * sz := hown.1
  simp only [List.length_append, List.length_take, List.length_drop]
  omega
/-- 'copy(s[a:], s[b:])' within one row -/
theorem opr_copy_self {T' e by' sz g o1 o2 d1 c1 d2 c2 c k : Nat} {agg : Bool} {raw : List Value} [ht : Sli P T e] [hs : Ty P e agg sz by' z'] (ho : o.op = .call { callee := .builtin .copy, args := #[x, y], argTypes := #[T, T'] }) (hx : ev F x = some (.slice (some ⟨g, o1, none⟩) d1 c1)) (hy : ev F y = some (.slice (some ⟨g, o2, none⟩) d2 c2))
    (p : Pick (own (.slice (some ⟨g, 0, none⟩) c c) e sz c raw) H R) (hk : Nat.min d2 d1 = k) (hfit : o1 + k * sz ≤ c * sz) (hfit2 : o2 + k * sz ≤ raw.length) (h1 : ∀ v ∈ (raw.drop o2).take (k * sz), v.oneCell' = true) :
    Opr P n o F H fun r H' => r = .int .i64 (k : Int) ∧ H' = own (.slice (some ⟨g, 0, none⟩) c c) e sz c (raw.take o1 ++ (raw.drop o2).take (k * sz) ++ raw.drop (o1 + k * sz)) :: R :=
  opr_copy_gen ho hx hy p hk (by rw [List.length_take, List.length_drop]; omega) hfit (fun w hw j v hj => by
    have hown : w.ownsRow 0 e sz (.slice (some ⟨g, 0, none⟩) c c) c raw := hw.head
    have hjl := (List.getElem?_eq_some_iff.1 hj).1
    rw [List.length_take] at hjl
    rw [List.getElem?_take_of_lt (by omega), List.getElem?_drop] at hj
    have := hown.cells (g := g) rfl _ _ hj
    rw [addr_shift] at this ⊢
    rwa [Nat.zero_add] at this) h1
theorem sl_cells {w : World} {sz b off d c : Nat} {α : Type} {f : α → List Value} {ys : List α} (hf : ∀ y, (f y).length = sz) (h3 : 0 < sz) (h : SliceAt w sz (.slice (some ⟨b, off, none⟩) d c) (ys.map f)) : ∀ j y, (flat f ys)[j]? = some y → w.cell? ((⟨b, off, none⟩ : Addr).add j) = some y := by
  intro j y hj
  have fl : ∀ l : List α, (flat f l).length = l.length * sz := fun l => flat_len f sz hf l
  have hjl := (List.getElem?_eq_some_iff.1 hj).1
  rw [fl] at hjl
  have hi : j / sz < ys.length := (Nat.div_lt_iff_lt_mul h3).2 hjl
  have hm : j % sz < sz := Nat.mod_lt _ h3
  obtain ⟨y0, hy0⟩ : ∃ y0, ys[j / sz]? = some y0 := ⟨_, List.getElem?_eq_getElem hi⟩
  obtain ⟨u, hu⟩ : ∃ u, (f y0)[j % sz]? = some u := ⟨_, List.getElem?_eq_getElem (by rw [hf]; exact hm)⟩
  have hat := flat_at f sz hf ys (j / sz) y0 hy0 (j % sz) u hu
  have hdm : j / sz * sz + j % sz = j := by rw [Nat.mul_comm]; exact Nat.div_add_mod j sz
  rw [hdm, hj] at hat
  have hyu := Option.some.inj hat
  subst hyu
  rcases h with ⟨h9, _⟩ | ⟨b', off', cp, hv, _, _, _, _, hrows⟩
  · have : ys = [] := by simpa using h9
    subst this
    simp at hi
  · cases hv
    have hcell := (hrows (j / sz) (f y0) (by rw [List.getElem?_map, hy0]; rfl)).2 (j % sz) y hu
    rw [addr_add, ← hdm, ← Nat.add_assoc]
    exact hcell
/-- 'copy(s[a:], x)', x read elsewhere -/
theorem opr_copy_sl {T' e by' sz g o1 d1 c1 b off d2 c2 c : Nat} {agg : Bool} {raw : List Value} {α : Type} {f : α → List Value} {ys : List α} {S : List Ent} [ht : Sli P T e] [hs : Ty P e agg sz by' z'] (ho : o.op = .call { callee := .builtin .copy, args := #[x, y], argTypes := #[T, T'] }) (hx : ev F x = some (.slice (some ⟨g, o1, none⟩) d1 c1)) (hy : ev F y = some (.slice (some ⟨b, off, none⟩) d2 c2))
    (p : Pick (own (.slice (some ⟨g, 0, none⟩) c c) e sz c raw) H R) (q : Pick (sl sz (.slice (some ⟨b, off, none⟩) d2 c2) (ys.map f)) R S) (hf : ∀ y, (f y).length = sz) (hf1 : ∀ y, ∀ u ∈ f y, u.oneCell' = true) (hsz : Nat.blt 0 sz = true) (hd : d2 = ys.length) (hk : d2 ≤ d1) (hfit : o1 + ys.length * sz ≤ c * sz) :
    Opr P n o F H fun r H' => r = .int .i64 (ys.length : Int) ∧ H' = own (.slice (some ⟨g, 0, none⟩) c c) e sz c (raw.take o1 ++ flat f ys ++ raw.drop (o1 + ys.length * sz)) :: R :=
  opr_copy_gen ho hx hy p (k := ys.length) (by rw [← hd]; exact Nat.min_eq_left hk) (flat_len f sz hf ys) hfit (fun w hw => sl_cells hf (by simpa using hsz) (hw.tail.1 _ q.mem)) (fun u hu => by
    unfold flat at hu
    obtain ⟨l, hl, hul⟩ := List.mem_flatten.1 hu
    obtain ⟨y, _, rfl⟩ := List.mem_map.1 hl
    exact hf1 y u hul)
/-- 'append(s[:a], s[b:]...)' where s has room -/
theorem opr_append_self {e by' sz g o2 m1 d2 c2 c : Nat} {agg : Bool} {raw : List Value} [ht : Sli P T e] [hs : Ty P e agg sz by' z'] (ho : o.op = .call { callee := .builtin .append, args := #[x, y], argTypes := #[T, T] }) (hx : ev F x = some (.slice (some ⟨g, 0, none⟩) m1 c)) (hy : ev F y = some (.slice (some ⟨g, o2, none⟩) d2 c2))
    (p : Pick (own (.slice (some ⟨g, 0, none⟩) c c) e sz c raw) H R) (hroom : m1 + d2 ≤ c) (hfit2 : o2 + d2 * sz ≤ raw.length) (h1 : ∀ v ∈ (raw.drop o2).take (d2 * sz), v.oneCell' = true) :
    Opr P n o F H fun r H' => r = .slice (some ⟨g, 0, none⟩) (m1 + d2) c ∧ H' = own (.slice (some ⟨g, 0, none⟩) c c) e sz c (raw.take (m1 * sz) ++ (raw.drop o2).take (d2 * sz) ++ raw.drop (m1 * sz + d2 * sz)) :: R := fun Q a w next ha hw hn => by
  have hw' := hw.perm p.perm
  have hown : w.ownsRow 0 e sz (.slice (some ⟨g, 0, none⟩) c c) c raw := hw'.head
  obtain ⟨cur, hg, h2, h3, h4, h5⟩ := row_here hown
  have hcl : cur.toList.length = c * sz := by simpa using h4
  have hcr : cur.toList = raw := by rw [← h5, List.take_of_length_le (by omega)]
  obtain ⟨it, dt, e1, _, _, e2, _, _⟩ := hs.info
  have hll : ((raw.drop o2).take (d2 * sz)).length = d2 * sz := by rw [List.length_take, List.length_drop]; omega
  have hfit : m1 * sz + d2 * sz ≤ c * sz := by rw [← Nat.add_mul]; exact Nat.mul_le_mul_right _ hroom
  have hr := run_append_room (P := P) w T o.type e it ht.h e1 g m1 c cur hg ⟨g, o2, none⟩ d2 c2 ((raw.drop o2).take (d2 * sz)) (by rw [e2]; exact hll) (fun j v hj => by
    have hjl := (List.getElem?_eq_some_iff.1 hj).1
    rw [List.length_take] at hjl
    rw [List.getElem?_take_of_lt (by omega), List.getElem?_drop] at hj
    have := hown.cells (g := g) rfl _ _ hj
    rw [addr_shift] at this ⊢
    rwa [Nat.zero_add] at this) h1 hroom (by rw [e2, hll, h4]; exact hfit)
  rw [hcr, hll, e2] at hr
  unfold Oper.wp
  simp only [execOp, ho, resolve, invoke, builtin, List.map_toArray, List.map_cons, List.map_nil, ha.eval hx, ha.eval hy, Sem.run_bind, Sem.run_pure, Result.andThen_ok, hr, Oper.upon]
  refine hn _ _ _ ⟨rfl, rfl⟩ (own_setRow hw' hg ?_)
  have hrl : raw.length = c * sz := hown.1
  simp only [List.length_append, List.length_take, List.length_drop]
  omega
/-- 'clear(s[a:b])' -/
theorem opr_clear_row {e by' sz g o1 c1 c k : Nat} {agg : Bool} {raw : List Value} [ht : Sli P T e] [hs : Ty P e agg sz by' z'] (ho : o.op = .call { callee := .builtin .clear, args := #[x], argTypes := #[T] }) (hx : ev F x = some (.slice (some ⟨g, o1, none⟩) k c1)) (p : Pick (own (.slice (some ⟨g, 0, none⟩) c c) e sz c raw) H R) (hk : 0 < k) (hfit : o1 + k * sz ≤ c * sz) (hz1 : ∀ v ∈ zrow z' k, v.oneCell' = true) (hzl : (zrow z' k).length = k * sz) :
    Opr P n o F H fun r H' => r = .tuple #[] ∧ H' = own (.slice (some ⟨g, 0, none⟩) c c) e sz c (raw.take o1 ++ zrow z' k ++ raw.drop (o1 + k * sz)) :: R := fun Q a w next ha hw hn => by
  have hw' := hw.perm p.perm
  have hown : w.ownsRow 0 e sz (.slice (some ⟨g, 0, none⟩) c c) c raw := hw'.head
  obtain ⟨cur, hg, h2, h3, h4, h5⟩ := row_here hown
  have hcl : cur.toList.length = c * sz := by simpa using h4
  have hcr : cur.toList = raw := by rw [← h5, List.take_of_length_le (by omega)]
  obtain ⟨it, dt, e1, _, _, e2, _, e4⟩ := hs.info
  have hst := run_storeCells_at P g o1 e (zrow z' k) 0 cur w hg (by rw [hzl]; simpa [h4] using hfit) hz1
  simp only [Nat.add_zero] at hst
  obtain ⟨k', rfl⟩ : ∃ k', k = k' + 1 := ⟨k - 1, by omega⟩
  have hr : (Builtin.clear_ #[T] o.type #[.slice (some ⟨g, o1, none⟩) (k' + 1) c1]).run P w = .ok (.tuple #[]) (w.setRow g (raw.take o1 ++ zrow z' (k' + 1) ++ raw.drop (o1 + (k' + 1) * sz)).toArray) := by
    rw [hcr, hzl] at hst
    have hze : (Builtin.zeroCells z'.cells (k' + 1)).toList = zrow z' (k' + 1) := by
      have e := zrow_eq hs.hz (k' + 1)
      have e9 : Builtin.zeroCells z'.cells (k' + 1) = (zrow z' (k' + 1)).toArray := by rw [← e]; unfold Builtin.zeroCells; rw [hs.hz]
      rw [e9]
    simp [Builtin.clear_, run_underlying ht.h, zeroValue, typeInfo, e1, e4, hze, hst]
  unfold Oper.wp
  simp only [execOp, ho, resolve, invoke, builtin, List.map_toArray, List.map_cons, List.map_nil, ha.eval hx, Sem.run_bind, Sem.run_pure, Result.andThen_ok, hr, Oper.upon]
  refine hn _ _ _ ⟨rfl, rfl⟩ (own_setRow hw' hg ?_)
  have hrl : raw.length = c * sz := hown.1
  simp only [List.length_append, List.length_take, List.length_drop, hzl]
  omega
/-- 'append(s[:i], make([]T, k)...)' where there is no room -/
theorem opr_append_zeros {tn e by' sz g i c k : Nat} {agg : Bool} {raw : List Value} {kq kn : IntKind} {j : Int} [ht : Sli P T e] [hs : Ty P e agg sz by' z'] [hi : IntK P tn kn] (ho : o.op = .call { callee := .builtin .append, args := #[x, y], argTypes := #[T, tn] }) (hx : ev F x = some (.slice (some ⟨g, 0, none⟩) i c)) (hy : ev F y = some (.int kq j)) (hj : j = (k : Int)) (p : Pick (own (.slice (some ⟨g, 0, none⟩) c c) e sz c raw) H R) (hic : i ≤ c) (h0 : 0 < k) (hsz : Nat.blt 0 sz = true) (hg : c < i + k) (h63 : i + k ≤ 9223372036854775807) (hb : (i + k) * by' ≤ 140737488355328) (hzl : (zrow z' k).length = k * sz) :
    Opr P n o F H fun r H' => ∃ g' c', r = .slice (some ⟨g', 0, none⟩) (i + k) c' ∧ H' = own (.slice (some ⟨g', 0, none⟩) (i + k) c') e sz (i + k) (raw.take (i * sz) ++ zrow z' k) :: H := fun Q a w next ha hw hn => by
  subst hj
  have hw' := hw.perm p.perm
  have hown : w.ownsRow 0 e sz (.slice (some ⟨g, 0, none⟩) c c) c raw := hw'.head
  have hrl : raw.length = c * sz := hown.1
  obtain ⟨it, dt, e1, e0, _, e2, e3, e4⟩ := hs.info
  have hmc : i * sz ≤ c * sz := Nat.mul_le_mul_right _ hic
  have hls : ∀ j u, (raw.take (i * sz))[j]? = some u → w.drew.cell? ((⟨g, 0, none⟩ : Addr).add j) = some u := by
    intro j u hj
    have hjl := (List.getElem?_eq_some_iff.1 hj).1
    rw [List.length_take] at hjl
    rw [List.getElem?_take_of_lt (by omega)] at hj
    exact hown.cells (g := g) rfl _ _ hj
  have hold := run_firstCells_some (P := P) w.drew it.size i ⟨g, 0, none⟩ i c (raw.take (i * sz)) (by rw [e2, List.length_take]; omega) hls
  have hr := Lib.run_append_grow_zeros (P := P) w T tn o.type e it z' kq kn ht.h hi.h e1 e4 (some ⟨g, 0, none⟩) i c (raw.take (i * sz)) hold k h0 (by rw [e2]; simpa using hsz) hg (by omega) (by rw [e3]; have := Nat.mul_le_mul_right by' (show k ≤ i + k by omega); omega) (by rw [e3]; exact growslice_fits hg hb)
  have e9 : Builtin.zeroCells z'.cells k = (zrow z' k).toArray := by
    rw [← zrow_eq hs.hz k]
    unfold Builtin.zeroCells
    rw [hs.hz]
  have hge := grownCap_ge w (i + k) c e
  have hcm : grownCap w (i + k) c e ≤ maxLen := grownCap_le_maxLen w (i + k) c e (by unfold maxLen; omega)
  generalize grownCap w (i + k) c e = gc at *
  have hz2 : (Builtin.zeroCells z'.cells (gc - (i + k))).size = (gc - (i + k)) * sz := by rw [size_zeroCells, hs.hz]
  generalize Builtin.zeroCells z'.cells (gc - (i + k)) = zz at *
  rw [e9] at hr
  unfold Oper.wp
  simp only [execOp, ho, resolve, invoke, builtin, List.map_toArray, List.map_cons, List.map_nil, ha.eval hx, ha.eval hy, Sem.run_bind, Sem.run_pure, Result.andThen_ok, hr, Oper.upon]
  refine hn _ _ _ ⟨w.heap.size, gc, rfl, rfl⟩ (HeapOk.new hw.drew (moved_alloc w.drew _) ?_ fun b hb => ?_)
  · have hl1 : (raw.take (i * sz)).length = i * sz := by rw [List.length_take]; omega
    refine ⟨by rw [List.length_append, hl1, hzl, Nat.add_mul], .inr ⟨w.heap.size, gc, _, rfl, Nat.zero_le _, heap_alloc_new w.drew _, hge, hcm, ?_, ?_⟩⟩
    · simp only [Array.size_append, List.size_toArray, hl1, hzl, hz2, ← Nat.add_mul]
      congr 1
      omega
    · simp only [Array.toList_append, List.append_assoc]
      rw [← List.append_assoc]
      refine List.take_left' ?_
      rw [List.length_append, hl1, hzl, Nat.add_mul]
  · have : w.heap.size = b := Option.some.inj hb
    show w.heap.size ≤ b
    omega
theorem opr_extern {f : FuncId} {args : List Operand} {ts : Array TypeId} {vs : List Value} {u : Value} (ho : o.op = .call { callee := .value (.func f), args := args.toArray, argTypes := ts }) (hv : evl F args = some vs) (hrun : ∀ w, HeapOk H w → (callFunc f vs.toArray).run P w = .ok (.value u) w) : Opr P n o F H fun v H' => v = u ∧ H' = H := fun Q a w next ha hw hn => by
  have he := evl_eval ha hv
  have e1 : args.toArray.map a.eval = vs.toArray := by simpa using he
  unfold Oper.wp
  simp only [execOp, ho, resolve, Deferred.ofValue, Act.eval, invoke, e1, Sem.run_bind, Sem.run_pure, Result.andThen_ok]
  simp only [Array.append_empty, List.append_toArray, List.nil_append, hrun w hw, Oper.upon]
  exact hn _ _ _ ⟨rfl, rfl⟩ hw
end
end Go.Proofs.Ytcbpeampjhegcaa.sl
