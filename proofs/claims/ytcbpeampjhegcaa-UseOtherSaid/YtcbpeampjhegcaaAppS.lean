/-
  'append(own, s...)' with any slice s; 'slices.Grow' at nil. Nothing here speaks of the program.
-/
import Derived.Test.YtcbpeampjhegcaaRowsN
import Derived.Lib.AppendZeros
namespace Go.Proofs.Ytcbpeampjhegcaa.kit
open Go.RowKit
set_option linter.unusedVariables false

theorem run_append_none {P : Program} {w : World} {t e ty : TypeId} {sz bytes : Nat} {z : Value} (hT : SliceTy P t e sz bytes z) {B n : Nat} {v : Value} {xs : List Value} (hown : w.ownsRow B e sz v n xs) :
    (Builtin.append_ #[t, t] ty #[v, .slice none 0 0]).run P w = .ok v w := by
  obtain ⟨h1, h2, h3, i, hi1, hi2, hi3, hi4⟩ := hT
  rcases hown.2 with ⟨rfl, h0⟩ | ⟨g, cap, cur, rfl, hb, hg, hn, _⟩
  · simp [Builtin.append_, run_underlying h1, sizeOf, typeInfo, hi1, Builtin.lenOf, Builtin.firstCells]
  · simp [Builtin.append_, run_underlying h1, sizeOf, typeInfo, hi1, Builtin.lenOf, Builtin.firstCells, hn, storeCells]

theorem below_grown_none {B : Nat} {w0 w : World} (h : Below B w0 w) : Below B w0 w := h

/-- 'out = append(out, s...)', out nil or the call's own, s any slice. -/
theorem appS {P : Program} {w0 w : World} {B : Nat} {t e : TypeId} {sz bytes : Nat} {z : Value} (hT : SliceTy P t e sz bytes z) {ops : Array Oper} {rest : List Oper} {o : Oper} {a : Act} {Q : Exit → Act → World → Prop} (hgd : o.guard = none) (s x : Operand)
    (ho : o.op = .call { callee := .builtin .append, args := #[s, x], argTypes := #[t, t] })
    {α : Type} (f : α → List Value) (hf : ∀ y, (f y).length = sz) (hf1 : ∀ y, ∀ u ∈ f y, u.oneCell' = true)
    (v u : Value) (n : Nat) (xs : List Value) (ys : List α) (hs : a.eval s = v) (hx : a.eval x = u)
    (hown : w.ownsRow B e sz v n xs) (hsl : SliceAt w sz u (ys.map f))
    (hbytes : (n + ys.length) * bytes ≤ 140737488355328) (h63 : n + ys.length ≤ maxLen) (hb : Below B w0 w) (hB : B ≤ w.heap.size)
    (h : ∀ v' w', w'.ownsRow B e sz v' (n + ys.length) (xs ++ flat f ys) → w.grownBy w' v.ownBlock → Below B w0 w' → B ≤ w'.heap.size → wpList P ops Q rest (a.put o.dst v') w') :
    wpList P ops Q (o :: rest) a w := by
  by_cases hnil : u = .slice none 0 0
  · subst hnil
    have h0 : ys = [] := by
      rcases hsl with ⟨h0, _⟩ | ⟨b, off, cap, h0, _⟩
      · simpa using h0
      · simp at h0
    subst h0
    refine Lib.wpList_append_run w hgd s x t t ho _ _ hs hx _ _ (run_append_none hT hown) ?_
    exact h v w (by simpa [flat] using hown) (grown_refl _ _) hb hB
  · obtain ⟨h1, h2, h3, i, hi1, hi2, hi3, hi4⟩ := hT
    obtain ⟨q, cap, b, off, rfl, hq, hc⟩ := hsl.view
    simp only [List.length_map] at hq hx hnil
    have hqs : ∃ ad, q = some ad := by
      cases q with
      | some ad => exact ⟨ad, rfl⟩
      | none =>
        exfalso
        rcases hsl with ⟨h0, hv⟩ | ⟨b, off, cap, h0, _⟩
        · have h9 : ys = [] := by simpa using h0
          subst h9
          rcases hv with hv | ⟨_, _, hv⟩
          · simp at hv; subst hv; exact hnil rfl
          · simp at hv
        · simp at h0
    obtain ⟨ad, rfl⟩ := hqs
    refine wpList_append_own w hgd s x t ho B e i z sz bytes h1 hi1 hi2 hi3 hi4 h2 h3 v n xs hs hown ad ys.length cap (flat f ys) hx (flat_len f sz hf ys) ?_ ?_ h63 hbytes hB ?_
    · intro j y hj
      have hjl := (List.getElem?_eq_some_iff.1 hj).1
      rw [flat_len f sz hf] at hjl
      have hi : j / sz < ys.length := (Nat.div_lt_iff_lt_mul h3).2 hjl
      have hm : j % sz < sz := Nat.mod_lt _ h3
      obtain ⟨y0, hy0⟩ : ∃ y0, ys[j / sz]? = some y0 := ⟨_, List.getElem?_eq_getElem hi⟩
      obtain ⟨u, hu⟩ : ∃ u, (f y0)[j % sz]? = some u := ⟨_, List.getElem?_eq_getElem (by rw [hf]; exact hm)⟩
      have hat := flat_at f sz hf ys (j / sz) y0 hy0 (j % sz) u hu
      have hdm : j / sz * sz + j % sz = j := by rw [Nat.mul_comm]; exact Nat.div_add_mod j sz
      rw [hdm, hj] at hat
      have hyu := Option.some.inj hat
      subst hyu
      obtain ⟨hqa, _⟩ := hq (j / sz) hi
      have hqa2 := Option.some.inj hqa
      subst hqa2
      have hcell := hc (j / sz) (f y0) (by rw [List.getElem?_map, hy0]; rfl) (j % sz) y hu
      have ea : (⟨b, off, none⟩ : Addr).add j = ⟨b, off + j, none⟩ := by unfold Addr.add; split <;> simp_all
      rw [ea, ← hdm, ← Nat.add_assoc]
      exact hcell
    · intro u hu
      unfold flat at hu
      obtain ⟨l, hl, hul⟩ := List.mem_flatten.1 hu
      obtain ⟨y, _, rfl⟩ := List.mem_map.1 hl
      exact hf1 y u hul
    · intro v' w' ho' hg _
      exact h v' w' ho' hg (hb.grown hg hB (fun k hk => (hown.lt k hk).1)) (Nat.le_trans hB hg.size)

/-- 'append(nil, s...)' inside a region that draws its order. -/
theorem step_appNil {P : Program} {w0 w : World} {B : Nat} {t e : TypeId} {sz bytes : Nat} {z : Value} (hT : SliceTy P t e sz bytes z) {ops : Array Oper} {o : Oper} {a : Act} {K : Act → World → Prop} {Q : Exit → Act → World → Prop} {E : Prop} (hgd : o.guard = none) (s x : Operand)
    (ho : o.op = .call { callee := .builtin .append, args := #[s, x], argTypes := #[t, t] })
    {α : Type} (f : α → List Value) (hf : ∀ y, (f y).length = sz) (hf1 : ∀ y, ∀ u ∈ f y, u.oneCell' = true)
    (u : Value) (ys : List α) (hs : a.eval s = .slice none 0 0) (hx : a.eval x = u) (hsl : SliceAt w sz u (ys.map f))
    (hbytes : ys.length * bytes ≤ 140737488355328) (h63 : ys.length ≤ maxLen) (hb : Below B w0 w) (hB : B ≤ w.heap.size)
    (h : ∀ q cap w', w'.ownsRow w.heap.size e sz (.slice q ys.length cap) ys.length (flat f ys) → w.grownBy w' none → Below B w0 w' → B ≤ w'.heap.size → K (a.put o.dst (.slice q ys.length cap)) w') :
    if Region.wanted o (yielded ops a.tmps) = true then Oper.wp P o a w K Q else E := by
  have hw : Region.wanted o (yielded ops a.tmps) = true := by simp [Region.wanted, hgd]
  rw [if_pos hw]
  have hnilb : (Value.slice none 0 0).ownBlock = none := rfl
  have hown0 : w.ownsRow w.heap.size e sz (.slice none 0 0) 0 [] := World.ownsRow_nil _ _ _ _
  by_cases hnil : u = .slice none 0 0
  · subst hnil
    have h0 : ys = [] := by
      rcases hsl with ⟨h0, _⟩ | ⟨b, off, cap, h0, _⟩
      · simpa using h0
      · simp at h0
    subst h0
    refine Lib.wp_append_run w s x t t ho _ _ hs hx _ _ (run_append_none hT hown0) ?_
    exact h none 0 w (by simpa [flat] using hown0) (grown_refl _ _) hb hB
  · obtain ⟨h1, h2, h3, i, hi1, hi2, hi3, hi4⟩ := hT
    obtain ⟨q, cap, b, off, rfl, hq, hc⟩ := hsl.view
    simp only [List.length_map] at hq hx hnil
    have hqs : ∃ ad, q = some ad := by
      cases q with
      | some ad => exact ⟨ad, rfl⟩
      | none =>
        exfalso
        rcases hsl with ⟨h0, hv⟩ | ⟨b, off, cap, h0, _⟩
        · have h9 : ys = [] := by simpa using h0
          subst h9
          rcases hv with hv | ⟨_, _, hv⟩
          · simp at hv; subst hv; exact hnil rfl
          · simp at hv
        · simp at h0
    obtain ⟨ad, rfl⟩ := hqs
    refine wp_append_own w s x t ho w.heap.size e i z sz bytes h1 hi1 hi2 hi3 hi4 h2 h3 _ 0 [] hs hown0 ad ys.length cap (flat f ys) hx (flat_len f sz hf ys) ?_ ?_ (by omega) (by rw [Nat.zero_add]; exact hbytes) (Nat.le_refl _) ?_
    · intro j y hj
      have hjl := (List.getElem?_eq_some_iff.1 hj).1
      rw [flat_len f sz hf] at hjl
      have hi : j / sz < ys.length := (Nat.div_lt_iff_lt_mul h3).2 hjl
      have hm : j % sz < sz := Nat.mod_lt _ h3
      obtain ⟨y0, hy0⟩ : ∃ y0, ys[j / sz]? = some y0 := ⟨_, List.getElem?_eq_getElem hi⟩
      obtain ⟨u, hu⟩ : ∃ u, (f y0)[j % sz]? = some u := ⟨_, List.getElem?_eq_getElem (by rw [hf]; exact hm)⟩
      have hat := flat_at f sz hf ys (j / sz) y0 hy0 (j % sz) u hu
      have hdm : j / sz * sz + j % sz = j := by rw [Nat.mul_comm]; exact Nat.div_add_mod j sz
      rw [hdm, hj] at hat
      have hyu := Option.some.inj hat
      subst hyu
      obtain ⟨hqa, _⟩ := hq (j / sz) hi
      have hqa2 := Option.some.inj hqa
      subst hqa2
      have hcell := hc (j / sz) (f y0) (by rw [List.getElem?_map, hy0]; rfl) (j % sz) y hu
      have ea : (⟨b, off, none⟩ : Addr).add j = ⟨b, off + j, none⟩ := by unfold Addr.add; split <;> simp_all
      rw [ea, ← hdm, ← Nat.add_assoc]
      exact hcell
    · intro u hu
      unfold flat at hu
      obtain ⟨l, hl, hul⟩ := List.mem_flatten.1 hu
      obtain ⟨y, _, rfl⟩ := List.mem_map.1 hl
      exact hf1 y u hul
    · intro v' w' ho' hg _
      rw [Nat.zero_add, List.nil_append] at ho'
      obtain ⟨q', cap', rfl, _⟩ := own_lenN ho'
      exact h q' cap' w' ho' hg (hb.grown hg hB (fun k hk => by rw [hnilb] at hk; cases hk)) (Nat.le_trans hB hg.size)

theorem own_extN {w w' : World} {B e n sz : Nat} {v : Value} {xs : List Value} (h : w.ownsRow B e sz v n xs) (hg : w.grownBy w' none) : w'.ownsRow B e sz v n xs :=
  h.kept hg (by cases v.ownBlock <;> simp)
theorem own_monoN {w : World} {B C e n sz : Nat} {v : Value} {xs : List Value} (h : w.ownsRow B e sz v n xs) (hc : C ≤ B) : w.ownsRow C e sz v n xs := by
  refine ⟨h.1, ?_⟩
  rcases h.2 with h2 | ⟨g, cap, cur, rfl, hb, r⟩
  · exact .inl h2
  · exact .inr ⟨g, cap, cur, rfl, Nat.le_trans hc hb, r⟩

/-- there is room for T elements, or none is wanted -/
def Room (v : Value) (T : Nat) : Prop := (v = .slice none 0 0 ∧ T = 0) ∨ ∃ g n C, v = .slice (some ⟨g, 0, none⟩) n C ∧ T ≤ C

/-- 'out = append(out, s...)' where out is the call's own and has room: whatever the size. -/
theorem appR {P : Program} {w0 w : World} {B : Nat} {t e : TypeId} {sz bytes : Nat} {z : Value} (hT : SliceTy P t e sz bytes z) {ops : Array Oper} {rest : List Oper} {o : Oper} {a : Act} {Q : Exit → Act → World → Prop} (hgd : o.guard = none) (s x : Operand)
    (ho : o.op = .call { callee := .builtin .append, args := #[s, x], argTypes := #[t, t] })
    {α : Type} (f : α → List Value) (hf : ∀ y, (f y).length = sz) (hf1 : ∀ y, ∀ u ∈ f y, u.oneCell' = true)
    (v u : Value) (n T : Nat) (xs : List Value) (ys : List α) (hs : a.eval s = v) (hx : a.eval x = u)
    (hown : w.ownsRow B e sz v n xs) (hroom : Room v T) (hnT : n + ys.length ≤ T) (hsl : SliceAt w sz u (ys.map f)) (hb : Below B w0 w) (hB : B ≤ w.heap.size)
    (h : ∀ v' w', w'.ownsRow B e sz v' (n + ys.length) (xs ++ flat f ys) → Room v' T → Below B w0 w' → B ≤ w'.heap.size → wpList P ops Q rest (a.put o.dst v') w') :
    wpList P ops Q (o :: rest) a w := by
  by_cases h0 : ys = []
  · subst h0
    have hrun : ∀ ty, (Builtin.append_ #[t, t] ty #[v, u]).run P w = .ok v w := by
      intro ty
      rcases hsl with ⟨_, rfl | ⟨ad, cap, rfl⟩⟩ | ⟨b, off, cap, _, _, _, hpos, _⟩
      · exact run_append_none hT hown
      · obtain ⟨h1, h2, h3, i, hi1, hi2, hi3, hi4⟩ := hT
        rcases hown.2 with ⟨rfl, h0⟩ | ⟨g, cap, cur, rfl, hb, hg, hn, _⟩
        · simp [Builtin.append_, run_underlying h1, sizeOf, typeInfo, hi1, Builtin.lenOf, Builtin.firstCells, loadCells, loadCellsFrom]
        · simp [Builtin.append_, run_underlying h1, sizeOf, typeInfo, hi1, Builtin.lenOf, Builtin.firstCells, hn, storeCells, loadCells, loadCellsFrom]
      · simp at hpos
    refine Lib.wpList_append_run w hgd s x t t ho _ _ hs hx _ _ (hrun _) ?_
    exact h v w (by simpa [flat] using hown) hroom hb hB
  · have hpos : 0 < ys.length := List.length_pos_iff.2 h0
    obtain ⟨h1, h2, h3, i, hi1, hi2, hi3, hi4⟩ := hT
    rcases hsl with ⟨h9, _⟩ | ⟨b, off, cp, rfl, _, _, _, hblk, hrows⟩
    · simp at h9; exact absurd h9 h0
    · simp only [List.length_map] at hx
      rcases hroom with ⟨_, hT0⟩ | ⟨g', n', C, hv, hTC⟩
      · omega
      · rcases hown.2 with ⟨hv2, _⟩ | ⟨g, cap, cur, rfl, hbg, hg, hnc, hcm, hcs, htake⟩
        · rw [hv2] at hv; simp at hv
        · have hCc : C = cap := by simp at hv; omega
          subst hCc
          have hnews : ∀ j y, (flat f ys)[j]? = some y → w.cell? ((⟨b, off, none⟩ : Addr).add j) = some y := by
            intro j y hj
            have hjl := (List.getElem?_eq_some_iff.1 hj).1
            rw [flat_len f sz hf] at hjl
            have hi : j / sz < ys.length := (Nat.div_lt_iff_lt_mul h3).2 hjl
            have hm : j % sz < sz := Nat.mod_lt _ h3
            obtain ⟨y0, hy0⟩ : ∃ y0, ys[j / sz]? = some y0 := ⟨_, List.getElem?_eq_getElem hi⟩
            obtain ⟨u, hu⟩ : ∃ u, (f y0)[j % sz]? = some u := ⟨_, List.getElem?_eq_getElem (by rw [hf]; exact hm)⟩
            have hat := flat_at f sz hf ys (j / sz) y0 hy0 (j % sz) u hu
            have hdm : j / sz * sz + j % sz = j := by rw [Nat.mul_comm]; exact Nat.div_add_mod j sz
            rw [hdm, hj] at hat
            have hyu := Option.some.inj hat
            subst hyu
            have hcell := (hrows (j / sz) (f y0) (by rw [List.getElem?_map, hy0]; rfl)).2 (j % sz) y hu
            have ea : (⟨b, off, none⟩ : Addr).add j = ⟨b, off + j, none⟩ := by unfold Addr.add; split <;> simp_all
            rw [ea, ← hdm, ← Nat.add_assoc]
            exact hcell
          have hone : ∀ u ∈ flat f ys, u.oneCell' = true := by
            intro u hu
            unfold flat at hu
            obtain ⟨l, hl, hul⟩ := List.mem_flatten.1 hu
            obtain ⟨y, _, rfl⟩ := List.mem_map.1 hl
            exact hf1 y u hul
          have hll : (flat f ys).length = ys.length * i.size := by rw [flat_len f sz hf, hi3]
          have hfit : n * i.size + (flat f ys).length ≤ cur.size := by rw [hll, hcs, hi3, ← Nat.add_mul]; exact Nat.mul_le_mul_right _ (by omega)
          have hr := run_append_room (P := P) w t o.type e i h1 hi1 g n C cur hg ⟨b, off, none⟩ ys.length cp (flat f ys) hll hnews hone (by omega) hfit
          have hlen : (xs ++ flat f ys).length = (n + ys.length) * sz := by rw [List.length_append, hown.1, hll, hi3, Nat.add_mul]
          refine Lib.wpList_append_run w hgd s x t t ho _ _ hs hx _ _ hr ?_
          refine h _ _ ⟨hlen, .inr ⟨g, C, _, rfl, hbg, setRow_heap w g cur _ e _ hg, by omega, hcm, ?_, ?_⟩⟩ (.inr ⟨g, _, C, rfl, hTC⟩) ?_ ?_
          · simp only [List.size_toArray, List.length_append, List.length_take, List.length_drop, Array.length_toList]
            omega
          · rw [← hlen]
            simp only [hi3]
            rw [htake]
            exact List.take_left
          · exact hb.trans ⟨rfl, rfl, rfl, by simp [World.setRow], fun k hk => setRow_other w g k _ (by omega)⟩
          · simpa [World.setRow] using hB

/-- what 'slices.Grow(nil, n)' lays: an empty row of the call's own, with room -/
theorem grown_room {w : World} {e sz n : Nat} {z : Value} (hz : z.cells.size = sz) (h63 : n ≤ maxLen) :
    (w.drew.alloc (.cells (Builtin.zeroCells z.cells n ++ Builtin.zeroCells z.cells (grownCap w n 0 e - n)) e)).ownsRow w.heap.size e sz (.slice (some ⟨w.heap.size, 0, none⟩) 0 (grownCap w n 0 e)) 0 [] := by
  have hge := grownCap_ge w n 0 e
  have := World.ownsRow_made (base := w.heap.size) (e := e) (size := sz) w.drew (Builtin.zeroCells z.cells n ++ Builtin.zeroCells z.cells (grownCap w n 0 e - n)) (grownCap w n 0 e) (Nat.le_refl _) (grownCap_le_maxLen w n 0 e h63) (by
    rw [Array.size_append, size_zeroCells, size_zeroCells, hz, ← Nat.add_mul]
    congr 1
    omega)
  exact this
end Go.Proofs.Ytcbpeampjhegcaa.kit
