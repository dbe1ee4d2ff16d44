/-
  linenkeep.widths and slices.Equal of numbers.
-/
import Derived.Test.YtjeocmkdekdlnaaUnpack
import Derived.Deep.RegionHeld3
namespace Go.Proofs.Ytjeocmkdekdlnaa.bits
open Go.RowKit kit
set_option linter.unusedVariables false

theorem tI : SliceTy Try.prog 40 3 1 8 (.int .i64 0) := sliceTy_mk Try.underlying40 (by kernel_rfl) rfl (by decide)

/-- an own row read as a slice -/
theorem own_slice {w : World} {B e : Nat} {v : Value} {α : Type} {xs : List α} {f : α → Value} {n : Nat} (hl : n = xs.length) (h : w.ownsRow B e 1 v n (xs.map f)) : SliceAt w 1 v (xs.map fun x => [f x]) := by
  subst hl
  rcases h.2 with ⟨rfl, h0⟩ | ⟨g, cap, cur, rfl, hb, hg, h1, h2, h3, h4⟩
  · left
    exact ⟨by simpa using h0, .inl rfl⟩
  · by_cases h0 : xs.length = 0
    · left
      exact ⟨by simpa using h0, .inr ⟨_, cap, by rw [h0]⟩⟩
    · right
      refine ⟨g, 0, cap, by simp, by simpa using h1, h2, by simp; omega, (Array.getElem?_eq_some_iff.1 hg).1, ?_⟩
      intro i r hr
      rw [List.getElem?_map] at hr
      obtain ⟨x, hx, rfl⟩ := Option.map_eq_some_iff.1 hr
      refine ⟨rfl, ?_⟩
      intro j y hy
      have hj : j = 0 := by have := (List.getElem?_eq_some_iff.1 hy).1; simp at this; omega
      subst hj
      simp at hy
      subst hy
      have hgi : some g = (Value.slice (some ⟨g, 0, none⟩) xs.length cap).ownBlock := rfl
      have := h.cells hgi.symm i (f x) (by rw [List.getElem?_map, hx]; rfl)
      have ea : (⟨g, 0, none⟩ : Addr).add i = ⟨g, i, none⟩ := by unfold Addr.add; split <;> simp_all
      rw [ea] at this
      simpa [Nat.mul_one] using this

/-- a slice's value and cells, empty or not -/
theorem _root_.Go.Proofs.Ytjeocmkdekdlnaa.kit.SliceAt.view {w : World} {sz : Nat} {v : Value} {rows : List (List Value)} (h : SliceAt w sz v rows) :
    ∃ q cap b off, v = .slice q rows.length cap ∧ (∀ k, k < rows.length → q = some ⟨b, off, none⟩ ∧ b < w.heap.size) ∧ ∀ i r, rows[i]? = some r → ∀ j x, r[j]? = some x → w.cell? ⟨b, off + i * sz + j, none⟩ = some x := by
  rcases h with ⟨rfl, hv⟩ | ⟨b, off, cap, rfl, hcap, hmax, hpos, hblk, hrows⟩
  · rcases hv with rfl | ⟨a, cap, rfl⟩
    · exact ⟨none, 0, 0, 0, rfl, fun k hk => by simp at hk, fun i r hr => by simp at hr⟩
    · exact ⟨some a, cap, 0, 0, rfl, fun k hk => by simp at hk, fun i r hr => by simp at hr⟩
  · exact ⟨_, cap, b, off, rfl, fun _ _ => ⟨rfl, hblk⟩, fun i r hr => (hrows i r hr).2⟩

theorem eq_take {xs ys : List Int} {k : Nat} {x y : Int} (hx : xs[k]? = some x) (hy : ys[k]? = some y) (h : xs.take k = ys.take k) (e : x = y) : xs.take (k + 1) = ys.take (k + 1) := by
  rw [take_one hx, take_one hy, h, e]

set_option maxRecDepth 100000 in
theorem equal_any (a b : Value) (xs ys : List Int) (W : World) (ha : SliceAt W 1 a (xs.map fun x => [Value.int .u64 x])) (hb : SliceAt W 1 b (ys.map fun x => [Value.int .u64 x])) (hn : xs.length ≤ 1000000000000000) (hm : ys.length ≤ 1000000000000000) :
    Calls Try.prog 26 #[a, b] W fun e w' => e = .returned (.bool (decide (xs = ys))) ∧ W.grownBy w' none := by
  obtain ⟨qa, ca, ba, oa, rfl, hqa, hca⟩ := ha.view
  obtain ⟨qb, cb, bb, ob, rfl, hqb, hcb⟩ := hb.view
  clear ha hb
  simp only [List.length_map] at hqa hqb ⊢
  have HA := Lib.hid hqa
  have HB := Lib.hid hqb
  have HCA : Hid (∀ k x, xs[k]? = some x → W.cell? ⟨ba, oa + k, none⟩ = some (.int .u64 x)) := fun k x hx => by
    have := hca k _ (by rw [List.getElem?_map, hx]; rfl) 0 _ rfl
    simpa [Nat.mul_one] using this
  have HCB : Hid (∀ k x, ys[k]? = some x → W.cell? ⟨bb, ob + k, none⟩ = some (.int .u64 x)) := fun k x hx => by
    have := hcb k _ (by rw [List.getElem?_map, hx]; rfl) 0 _ rfl
    simpa [Nat.mul_one] using this
  clear hqa hqb hca hcb
  by_cases hl : (xs.length : Int) = (ys.length : Int)
  · obtain ⟨n, hn'⟩ : ∃ n, n = xs.length := ⟨_, rfl⟩
    have hl' : ys.length = n := by omega
    rw [hl', ← hn']
    have HN := Lib.hid hn'
    have HL := Lib.hid hl'
    rw [← hn'] at hn
    clear hl hl' hn' hm
    go_enter Try.func26, Try.ntmps26
    go_wp2_with (fail)
    go_loopw [13] (fun y wr => ∃ k : Nat, k ≤ n ∧ y = .int .i64 k ∧ Hid (xs.take k = ys.take k) ∧ W.grownBy wr none) (fun y _ => n - (intOf y).toNat)
    case atStart => exact ⟨0, Nat.zero_le _, rfl, by simp [Hid], grown_refl _ _⟩
    case round =>
      obtain ⟨k, hk, rfl, ht, hgr⟩ := hrel
      by_cases hlt : k < n
      · obtain ⟨rfl, hba⟩ := HA.out k (by rw [← HN.out]; exact hlt)
        obtain ⟨rfl, hbb⟩ := HB.out k (by rw [HL.out]; exact hlt)
        obtain ⟨x, hx⟩ : ∃ x, xs[k]? = some x := ⟨_, List.getElem?_eq_getElem (by rw [← HN.out]; exact hlt)⟩
        obtain ⟨y, hy⟩ : ∃ y, ys[k]? = some y := ⟨_, List.getElem?_eq_getElem (by rw [HL.out]; exact hlt)⟩
        have c1 : wr.cell? ⟨ba, oa + k, none⟩ = some (.int .u64 x) := hgr.cell (HCA.out k x hx) (by simp)
        have c2 : wr.cell? ⟨bb, ob + k, none⟩ = some (.int .u64 y) := hgr.cell (HCB.out k y hy) (by simp)
        have hltI : (k : Int) < (n : Int) := by omega
        have HX := Lib.hid hx
        have HY := Lib.hid hy
        clear hx hy
        by_cases hxy : x = y
        · subst hxy
          have HT := Lib.hid (eq_take HX.out HY.out ht rfl)
          go_wp2_with (fail)
          go_region
          go_wp2_with (fail)
          exact ⟨⟨k + 1, by omega, rfl, HT, grown_drew hgr⟩, by show n - (((k : Int) + 1).toNat) < n - ((k : Int).toNat); omega⟩
        · have hne : (x != y) = true := by simpa using hxy
          have hd : decide (xs = ys) = false := by
            rw [decide_eq_false_iff_not]
            intro e
            have := HX.out
            rw [e, HY.out] at this
            exact hxy (Option.some.inj this).symm
          go_wp2_with (fail)
          go_region
          go_wp2_with (fail)
          go_ret
          exact ⟨by rw [hd]; rfl, grown_drew hgr⟩
      · have hke : k = n := by omega
        have hd : decide (xs = ys) = true := by
          rw [decide_eq_true_iff]
          have := ht.out
          rw [hke] at this
          rwa [List.take_of_length_le (by rw [HN.out]; exact Nat.le_refl _), List.take_of_length_le (by rw [HL.out]; exact Nat.le_refl _)] at this
        go_wp2_with (fail)
        go_ret
        exact ⟨by rw [hd]; rfl, hgr⟩
  · have hd : decide (xs = ys) = false := by
      rw [decide_eq_false_iff_not]
      intro e
      rw [e] at hl
      exact hl rfl
    rw [hd]
    go_enter Try.func26, Try.ntmps26
    go_wp2_with (fail)
    go_ret
    exact ⟨rfl, grown_refl _ _⟩

theorem own_ext {w w' : World} {B e n : Nat} {v : Value} {xs : List Value} (h : w.ownsRow B e 1 v n xs) (hg : w.grownBy w' none) : w'.ownsRow B e 1 v n xs :=
  h.kept hg (by cases v.ownBlock <;> simp)
theorem below_ext {W w w' : World} (h : Below W.heap.size W w) (hg : w.grownBy w' none) : Below W.heap.size W w' :=
  h.trans ⟨hg.os, hg.tape, hg.output, hg.size, fun k hk => hg.block k (Nat.lt_of_lt_of_le hk h.size) (by simp)⟩
theorem grown_al {w w' : World} (h : w.grownBy w' none) (o : Obj) : w.grownBy (w'.alloc o) none :=
  grown_trans h (World.grownBy_alloc _ _ _)
theorem own_lt {w : World} {B e n : Nat} {v : Value} {xs : List Value} (h : w.ownsRow B e 1 v n xs) {a : Nat} (ha : w.heap.size ≤ a) : some a ≠ v.ownBlock := by
  intro e'
  rcases h.2 with ⟨rfl, _⟩ | ⟨g, cap, cur, rfl, hb, hg, _⟩
  · simp [Value.ownBlock] at e'
  · simp [Value.ownBlock] at e'
    have := (Array.getElem?_eq_some_iff.1 hg).1
    omega

theorem cell_new {w : World} {xs : Array Value} {e n j : Nat} {v : Value} (h : n = w.heap.size) (hx : xs[j]? = some v) : (w.alloc (.cells xs e)).cell? ⟨n, j, none⟩ = some v := by
  subst h
  rw [cell_of_row _ _ _ _ _ _ (heap_alloc_new _ _)]
  exact hx
theorem cell_old {w : World} {o : Obj} {a : Addr} {v : Value} (h : w.cell? a = some v) : (w.alloc o).cell? a = some v :=
  (World.grownBy_alloc w o none).cell h (by simp)
theorem own_apart {w : World} {B C e f n m : Nat} {u v : Value} {xs ys : List Value} (h : w.ownsRow B e 1 u n xs) (k : w.ownsRow C f 1 v m ys) (hne : e ≠ f) : u.ownBlock = none ∨ u.ownBlock ≠ v.ownBlock := by
  rcases h.2 with ⟨rfl, _⟩ | ⟨g, cap, cur, rfl, hb, hg, _⟩
  · exact .inl rfl
  · rcases k.2 with ⟨rfl, _⟩ | ⟨g2, cap2, cur2, rfl, hb2, hg2, _⟩
    · right; simp [Value.ownBlock]
    · right
      simp only [Value.ownBlock]
      intro e'
      have e2 : g = g2 := Option.some.inj e'
      subst e2
      rw [hg] at hg2
      simp at hg2
      exact hne hg2.2

/-- the values of pieces' fields -/
def wCells (l : List (Int × Int)) : List Value := l.map fun p => Value.int .i64 p.2
def vCells (l : List (Int × Int)) : List Value := l.map fun p => Value.int .u64 p.1

set_option maxRecDepth 100000 in
theorem widths_any (v : Value) (xs : List (Int × Int)) (W : World) (hs : SliceAt W 2 v (xs.map rowP)) (hn : xs.length ≤ 8796093022207) :
    Calls Try.prog 32 #[v] W fun e w' => ∃ a b, e = .returned (.tuple #[a, b]) ∧ SliceAt w' 1 a (xs.map fun p => [Value.int .i64 p.2]) ∧ SliceAt w' 1 b (xs.map fun p => [Value.int .u64 p.1]) ∧ Below W.heap.size W w' := by
  obtain ⟨q, cap, b, off, rfl, hq, hc⟩ := hs.view
  simp only [List.length_map] at hq ⊢
  have HQ := Lib.hid hq
  have HC : Hid (∀ k p, xs[k]? = some p → W.cell? ⟨b, off + k * 2, none⟩ = some (.int .u64 p.1) ∧ W.cell? ⟨b, off + k * 2 + 1, none⟩ = some (.int .i64 p.2)) := fun k p hx => by
    have := hc k _ (by rw [List.getElem?_map, hx]; rfl)
    exact ⟨this 0 _ rfl, this 1 _ rfl⟩
  clear hs hq hc
  go_enter Try.func32, Try.ntmps32
  go_wp2_with (fail)
  go_loopw [2, 3, 8] (fun a c y wr => ∃ k : Nat, k ≤ xs.length ∧ y = .int .i64 k ∧ wr.ownsRow W.heap.size 3 1 a k (wCells (xs.take k)) ∧ wr.ownsRow W.heap.size 22 1 c k (vCells (xs.take k)) ∧ Below W.heap.size W wr) (fun _ _ y _ => xs.length - (intOf y).toNat)
  case atStart => exact ⟨0, Nat.zero_le _, rfl, World.ownsRow_nil _ _ _ _, World.ownsRow_nil _ _ _ _, Below.refl _ _⟩
  case round =>
    obtain ⟨k, hk, rfl, ha, hv, hb⟩ := hrel
    by_cases hlt : k < xs.length
    · obtain ⟨rfl, hblk⟩ := HQ.out k hlt
      obtain ⟨⟨p1, p2⟩, hp⟩ : ∃ p, xs[k]? = some p := ⟨_, List.getElem?_eq_getElem hlt⟩
      have hc0 : wr.cell? ⟨b, off + k * 2, none⟩ = some (.int .u64 p1) := (hb.cell (p := ⟨b, off + k * 2, none⟩) hblk).trans (HC.out k _ hp).1
      have hc1 : wr.cell? ⟨b, off + k * 2 + 1, none⟩ = some (.int .i64 p2) := (hb.cell (p := ⟨b, off + k * 2 + 1, none⟩) hblk).trans (HC.out k _ hp).2
      have hltI : (k : Int) < (xs.length : Int) := by omega
      have HP := Lib.hid hp
      clear hp
      have hsz := hb.size
      have h63 : k + 1 ≤ maxLen := by unfold maxLen; omega
      have hby : (k + 1) * 8 ≤ 140737488355328 := by omega
      go_wp2_with (fail)
      have hap := (own_apart hv ha (by decide))
      go_region_held3 (fun w' => w'.cell? ⟨wr.heap.size, 0, none⟩ = some (.int .u64 p1) ∧ w'.cell? ⟨wr.heap.size, 1, none⟩ = some (.int .i64 p2)) (first | go_keep | exact ⟨hk1 _ _ (by repeat (first | exact cell_new (by simp) rfl | refine cell_old ?_)) (by first | omega | (simp <;> omega)), hk1 _ _ (by repeat (first | exact cell_new (by simp) rfl | refine cell_old ?_)) (by first | omega | (simp <;> omega))⟩ | exact ⟨hk2 _ _ (by repeat (first | exact cell_new (by simp) rfl | refine cell_old ?_)) (by first | omega | (simp <;> omega)), hk2 _ _ (by repeat (first | exact cell_new (by simp) rfl | refine cell_old ?_)) (by first | omega | (simp <;> omega))⟩)
        (first
          | (refine step_app1s tI (by rfl) _ _ (by rfl) u2 (Value.int .i64 p2) k (wCells (xs.take k)) (by rfl) _ (by rfl) (by repeat (first | exact cell_new (by simp) rfl | refine cell_old ?_)) (own_ext ha (by repeat (first | exact grown_refl _ _ | refine grown_al ?_ _ | refine grown_drew ?_))) (by rfl) hby h63 (below_ext hb (by repeat (first | exact grown_refl _ _ | refine grown_al ?_ _ | refine grown_drew ?_))) (by simp; omega) ?_
             intro g1 cap1 w1 hown1 hgr1 hbel1 hBg1 hgl1
             have hk1 := fun (ad : Addr) (v : Value) (h : World.cell? _ ad = some v) (hl : wr.heap.size ≤ ad.block) => hgr1.cell h (own_lt ha hl)
             have hv1 := (own_ext hv (by repeat (first | exact grown_refl _ _ | refine grown_al ?_ _ | refine grown_drew ?_))).kept hgr1 hap)
          | (refine step_app1s t64 (by rfl) _ _ (by rfl) u3 (Value.int .u64 p1) k (vCells (xs.take k)) (by rfl) _ (by rfl) (by first | exact cell_new (by simp) rfl | exact hk1 _ _ (by repeat (first | exact cell_new (by simp) rfl | refine cell_old ?_)) (by first | omega | (simp <;> omega))) (own_ext hv1 (by repeat (first | exact grown_refl _ _ | refine grown_al ?_ _ | refine grown_drew ?_))) (by rfl) hby h63 (below_ext hbel1 (by repeat (first | exact grown_refl _ _ | refine grown_al ?_ _ | refine grown_drew ?_))) (Nat.le_trans hbel1.size (by simp)) ?_
             intro g2 cap2 w2 hown2 hgr2 hbel2 hBg2 hgl2
             have hown1' := (own_ext hown1 (by repeat (first | exact grown_refl _ _ | refine grown_al ?_ _ | refine grown_drew ?_))).kept hgr2 (own_apart hown1 hv1 (by decide))
             have hk2 := fun (ad : Addr) (v : Value) (h : World.cell? _ ad = some v) (hl : wr.heap.size ≤ ad.block) => hgr2.cell (World.grownBy.cell (w := w1) (row := none) (by repeat (first | exact grown_refl _ _ | refine grown_al ?_ _ | refine grown_drew ?_)) (hk1 ad v h hl) (by simp)) (own_lt hv hl)))
      all_goals
        have e1 : wCells (xs.take k) ++ [Value.int .i64 p2] = wCells (xs.take (k + 1)) := by rw [take_one HP.out]; simp [wCells]
        have e2 : vCells (xs.take k) ++ [Value.int .u64 p1] = vCells (xs.take (k + 1)) := by rw [take_one HP.out]; simp [vCells]
        rw [e1] at hown1'
        rw [e2] at hown2
        clear e1 e2 hown1 hv1 hgr1 hgr2 hk1 hk2 ha hv hap hbel1
        go_wp2_with (fail)
        exact ⟨⟨k + 1, by omega, rfl, hown1', hown2, hbel2⟩, by show xs.length - (((k : Int) + 1).toNat) < xs.length - ((k : Int).toNat); omega⟩
    · have hke : k = xs.length := by omega
      subst hke
      rw [List.take_length] at ha hv
      have ha2 := own_slice rfl ha
      have hv2 := own_slice rfl hv
      clear ha hv
      go_wp2_with (fail)
      go_ret2
      exact ⟨_, _, rfl, ha2, hv2, hb⟩
end Go.Proofs.Ytjeocmkdekdlnaa.bits
