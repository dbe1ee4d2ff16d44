/-
  ImapTurns: the walk.
-/
import Derived.Test.YtdjnhbaipfkiaaaImapCut
import Derived.Test.YtdjnhbaipfkiaaaImapFresh
import Derived.Test.YtdjnhbaipfkiaaaEqualInt
namespace Go.Proofs.Ytdjnhbaipfkiaaa.lawImapTurns
open Go.RowKit kit Go.Proofs.Ytdjnhbaipfkiaaa.imap
set_option linter.unusedVariables false

theorem take_zero {e : Ending} (h : TakeSays zps zgs e) : e = .returned (.tuple #[.int .i64 1, .int .i64 0]) := by
  have hf : FreeAt zps zgs 1 := ⟨(0, 0), 0, rfl, rfl, rfl, by decide⟩
  rcases h with ⟨h, _⟩ | ⟨_, i, h1, h2, _, h4, rfl⟩ | ⟨_, h, _⟩
  · exact absurd good0 h
  · by_cases hi : i = 1
    · subst hi; rfl
    · exact absurd hf (h4 1 (Nat.le_refl _) (by omega))
  · exact absurd hf (h 1 (Nat.le_refl _) (by decide))
theorem eq_below (a b : Value) (xs ys : List Int) (W : World) (ha : SliceAt W 1 a (xs.map fun x => [Value.int .i64 x])) (hb : SliceAt W 1 b (ys.map fun x => [Value.int .i64 x])) (hn : xs.length ≤ 1000000000000000) (hm : ys.length ≤ 1000000000000000) (h : xs = ys) :
    Calls Try.prog 25 #[a, b] W fun e w' => e = .returned (.bool true) ∧ Below W.heap.size W w' := by
  refine (eqint.equal_any a b xs ys W ha hb hn hm).mono ?_
  rintro e w' ⟨rfl, hg⟩
  exact ⟨by rw [decide_eq_true h], hg.os, hg.tape, hg.output, hg.size, fun k hk => hg.block k hk (by simp)⟩
/-- behind a set the first free number lies behind -/
theorem good_set {ps : List (Int × Int)} {gs : List Int} {n : Nat} {p : Int × Int} (h : GoodM ps gs) (hp : Okay p) : GoodM (ps.set n p) gs := by
  refine ⟨by simp [h.1], h.2.1, fun i hi q g h1 h2 => ?_⟩
  rw [List.getElem?_set] at h1
  by_cases hn : n = i
  · subst hn
    rw [if_pos rfl] at h1
    split at h1
    · have := Option.some.inj h1
      subst this
      obtain ⟨q0, hq0⟩ : ∃ q0, ps[n]? = some q0 := ⟨_, List.getElem?_eq_getElem (by rw [h.1]; exact hi)⟩
      exact ⟨hp, (h.2.2 n hi _ _ hq0 h2).2⟩
    · cases h1
  · rw [if_neg hn] at h1
    exact h.2.2 i hi _ _ h1 h2
theorem good_cut {ps : List (Int × Int)} {gs : List Int} {n : Nat} {z : Int} (h : GoodM ps gs) (hz : 0 ≤ z ∧ z ≤ 2147483647) : GoodM (ps.set n (0, 0)) (gs.set n z) := by
  refine ⟨by simp [h.1], by simp [h.2.1], fun i hi q g h1 h2 => ?_⟩
  rw [List.getElem?_set] at h1 h2
  by_cases hn : n = i
  · subst hn
    rw [if_pos rfl, if_pos (by rw [h.1]; exact hi)] at h1
    rw [if_pos rfl, if_pos (by rw [h.2.1]; exact hi)] at h2
    have h3 := Option.some.inj h1
    have h4 := Option.some.inj h2
    subst h3 h4
    exact ⟨by decide, hz⟩
  · rw [if_neg hn] at h1 h2
    exact h.2.2 i hi _ _ h1 h2
theorem free_set {ps : List (Int × Int)} {gs : List Int} {n j : Nat} {p : Int × Int} (hp : p.1 ≠ 0) (h : FreeAt (ps.set n p) gs j) : j ≠ n ∧ FreeAt ps gs j := by
  obtain ⟨q, g, h1, h2, h3, h4⟩ := h
  rw [List.getElem?_set] at h1
  by_cases hn : n = j
  · subst hn
    rw [if_pos rfl] at h1
    split at h1
    · have := Option.some.inj h1
      subst this
      exact absurd h3 hp
    · cases h1
  · rw [if_neg hn] at h1
    exact ⟨fun e => hn e.symm, q, g, h1, h2, h3, h4⟩
theorem free_cut {ps : List (Int × Int)} {gs : List Int} {n j : Nat} {p : Int × Int} {z : Int} (hj : j ≠ n) (h : FreeAt ((ps.set n p).set n (0, 0)) (gs.set n z) j) : FreeAt ps gs j := by
  obtain ⟨q, g, h1, h2, h3, h4⟩ := h
  rw [List.getElem?_set, if_neg (fun e => hj e.symm), List.getElem?_set, if_neg (fun e => hj e.symm)] at h1
  rw [List.getElem?_set, if_neg (fun e => hj e.symm)] at h2
  exact ⟨q, g, h1, h2, h3, h4⟩

set_option maxHeartbeats 2000000 in
set_option maxRecDepth 100000 in
theorem walk (W : World) (a : Value) (ps : List (Int × Int)) (ha : SliceAt W 2 a (ps.map fun p : Int × Int => [Value.int .i64 p.1, Value.int .i64 p.2])) (ga : ∀ p ∈ ps, (Lit.int .i64 p.1).wf = true ∧ (Lit.int .i64 p.2).wf = true) (na : ps.length * Try.prog.bytesOf 45 ≤ reachBytes)
    (g : Value) (gs : List Int) (hg : SliceAt W 1 g (gs.map fun z : Int => [Value.int .i64 z])) (gg : ∀ z ∈ gs, (Lit.int .i64 z).wf = true) (ng : gs.length * Try.prog.bytesOf 3 ≤ reachBytes)
    (c : Int) (wc : (Lit.int .i64 c).wf = true) (t : Int) (wt : (Lit.int .i64 t).wf = true) :
    Calls Try.prog 5 #[.agg #[a, g], .agg #[.int .i64 c, .int .i64 t]] W fun e w' => e = .returned (.bool true) ∧ Below W.heap.size W w' := by
  have hr : reachBytes = 140737488351232 := rfl
  have hbp : Try.prog.bytesOf 45 = 16 := by kernel_rfl
  have hbi : Try.prog.bytesOf 3 = 8 := by kernel_rfl
  rw [hr, hbp] at na
  rw [hr, hbi] at ng
  have hm : MapAt W a g ps gs := ⟨ha, hg, ga, gg, by omega, by omega⟩
  clear ha hg ga gg na ng hr hbp hbi
  have htake := fun w h => take_any a g ps gs w h
  have hset := fun n w h h1 h2 => set_any a g ps gs n c t w h h1 h2 ⟨wc, wt⟩
  obtain ⟨qa, qg, ca, cg, ba, oa, bg, og, hc⟩ := hm.cells
  obtain ⟨rfl, rfl, va, vg, c0, c1⟩ := hc
  by_cases hgood : GoodM ps gs
  · have e1 := hgood.1
    have e2 := hgood.2.1
    rw [e1, e2] at hm htake hset ⊢
    have E1 := Lib.hid e1
    have E2 := Lib.hid e2
    have HVG := Lib.hid vg
    have HC1 := Lib.hid c1
    clear va c0 vg c1 e1 e2
    go_enter Try.func5, Try.ntmps5
    go_wp2_with (fail)
    obtain ⟨W0, hW0⟩ : ∃ W0, (W.alloc (Obj.cells #[Value.slice qa 48 ca, Value.slice qg 48 cg] 43)).alloc (Obj.cells #[Value.int .i64 c, Value.int .i64 t] 45) = W0 := ⟨_, rfl⟩
    have hb0 : Below W.heap.size W W0 := by rw [← hW0]; exact ((Below.refl W.heap.size W).alloc (Nat.le_refl _) _).alloc (by simp) _
    have x0 : W0.heap[W.heap.size]? = some (.cells #[Value.slice qa 48 ca, Value.slice qg 48 cg] 43 (0, 0)) := by
      rw [← hW0, heap_alloc_old _ _ (by simp)]; exact heap_alloc_new _ _
    have x1 : W0.heap[W.heap.size + 1]? = some (.cells #[Value.int .i64 c, Value.int .i64 t] 45 (0, 0)) := by
      rw [← hW0]
      have := heap_alloc_new (W.alloc (Obj.cells #[Value.slice qa 48 ca, Value.slice qg 48 cg] 43)) (Obj.cells #[Value.int .i64 c, Value.int .i64 t] 45)
      simpa using this
    rw [hW0]
    clear hW0
    obtain ⟨B, hB⟩ : ∃ B, W.heap.size = B := ⟨_, rfl⟩
    rw [hB] at x0 x1 ⊢
    have hBl : W.heap.size ≤ B := by omega
    clear hB
    have l1 := (Array.getElem?_eq_some_iff.1 x1).1
    have hF : ∀ w', Below W0.heap.size W0 w' → w'.cell? ⟨B, 0, none⟩ = some (Value.slice qa 48 ca) ∧ w'.cell? ⟨B, 1, none⟩ = some (Value.slice qg 48 cg) ∧ w'.cell? ⟨B + 1, 0, none⟩ = some (Value.int .i64 c) ∧ w'.cell? ⟨B + 1, 1, none⟩ = some (Value.int .i64 t) := fun w' h => by
      have y0 := (h.block B (by omega)).trans x0
      have y1 := (h.block (B + 1) l1).trans x1
      exact ⟨by rw [cell_of_row _ _ _ _ _ _ y0]; rfl, by rw [cell_of_row _ _ _ _ _ _ y0]; rfl, by rw [cell_of_row _ _ _ _ _ _ y1]; rfl, by rw [cell_of_row _ _ _ _ _ _ y1]; rfl⟩
    refine (fresh_any W0).mono ?_
    rintro e w1 ⟨⟨a1, g1, rfl, hm1⟩, b1⟩
    obtain ⟨qa1, qg1, ca1, cg1, _, _, _, _, hc1⟩ := hm1.cells
    obtain ⟨rfl, rfl, _, _, _, _⟩ := hc1
    go_wp2_with (fail)
    refine (take_any _ _ _ _ _ hm1).mono ?_
    rintro e w2 ⟨hs2, b2⟩
    have he2 := take_zero hs2
    subst he2
    have b2' : Below W0.heap.size W0 w2 := b1.trans (b2.mono b1.size)
    obtain ⟨y0, y1, y2, y3⟩ := hF w2 b2'
    clear hm1 hs2 b1 b2
    go_wp2_with (fail)
    refine (htake _ (hm.below (hb0.trans (b2'.mono hb0.size)))).mono ?_
    rintro e w3 ⟨hs3, b3⟩
    have b3' : Below W0.heap.size W0 w3 := b2'.trans (b3.mono b2'.size)
    have bw3 : Below W.heap.size W w3 := hb0.trans (b3'.mono hb0.size)
    clear y0 y1 y2 y3 b2' b3
    obtain ⟨y0, y1, y2, y3⟩ := hF w3 b3'
    rcases hs3 with ⟨hbad, _⟩ | ⟨_, n, hn1, hn48, hfree, hmin, rfl⟩ | ⟨_, _, rfl⟩
    · exact absurd hgood hbad
    · have hn1I : (1 : Int) ≤ (n : Int) := by omega
      have hn47I : (n : Int) ≤ 47 := by omega
      have HGOOD := Lib.hid hgood
      have HMIN := Lib.hid hmin
      have HFREE := Lib.hid hfree
      clear hgood hmin hfree htake
      go_wp2_with (fail)
      refine (hset n _ (hm.below bw3) HGOOD.out hn48).mono ?_
      rintro e w4 ⟨⟨hno, rfl⟩ | ⟨hok, a', g', rfl, hm4⟩, b4⟩
      · have bw4 := bw3.trans (b4.mono bw3.size)
        have bw5 := bw4.alloc bw4.size (Obj.cells #[Value.slice none 0 0, Value.slice none 0 0] 43)
        unfold none2
        clear hF hset hno
        go_wp2_with (fail)
        go_ret
        exact ⟨rfl, bw5⟩
      · obtain ⟨p9, z, hp9, hz9, _, hzlt⟩ := HFREE.out
        have hzr := (HGOOD.out.2.2 n hn48 _ _ hp9 hz9).2
        obtain ⟨ps1, hps1⟩ : ∃ ps1, ps1 = ps.set n (c, t) := ⟨_, rfl⟩
        rw [← hps1] at hm4
        have hgood1 : GoodM ps1 gs := by rw [hps1]; exact good_set HGOOD.out hok.1
        have hpn : ps1[n]? = some (c, t) := by rw [hps1, List.getElem?_set, if_pos rfl, if_pos (by rw [E1.out]; exact hn48)]
        obtain ⟨qa4, qg4, ca4, cg4, ba4, oa4, bg4, og4, hc4⟩ := hm4.cells
        obtain ⟨rfl, rfl, va4, vg4, c04, c14⟩ := hc4
        obtain ⟨rfl, hba4⟩ := va4 n (by rw [hgood1.1]; exact hn48)
        obtain ⟨rfl, hbg4⟩ := vg4 n (by rw [E2.out]; exact hn48)
        obtain ⟨rfl, hbg⟩ := HVG.out n (by rw [E2.out]; exact hn48)
        have d0 := (c04 n _ hpn).1
        have d1 := (c04 n _ hpn).2
        have d2 := c14 n z hz9
        have dz := (bw3.cell (p := ⟨bg, og + n, none⟩) hbg).trans (HC1.out n z hz9)
        have e14 := hgood1.1
        have e24 := hgood1.2.1
        rw [e14, e24] at hm4 ⊢
        have HPS1 := Lib.hid hps1
        have HGOOD1 := Lib.hid hgood1
        have HPN := Lib.hid hpn
        have HZ9 := Lib.hid hz9
        have HZL := Lib.hid hzlt
        have hc0 : c ≠ 0 := hok.2
        have b40 : Below W0.heap.size W0 w4 := b3'.trans (b4.mono b3'.size)
        have lB : B + 1 < w4.heap.size := Nat.lt_of_lt_of_le l1 b40.size
        have f4 := hF w4 b40
        have dz4 := (b4.cell (p := ⟨bg, og + n, none⟩) (Nat.lt_of_lt_of_le hbg bw3.size)).trans dz
        have hbg9 : bg < w4.heap.size := Nat.lt_of_lt_of_le (Nat.lt_of_lt_of_le hbg bw3.size) b4.size
        have bw4 := hb0.trans (b40.mono hb0.size)
        clear hps1 hgood1 hpn hz9 va4 vg4 c04 c14 hok hp9 x0 x1 hF hset y0 y1 y2 y3 b3' b4 b40 dz bw3 hzlt
        have bb4 := bw4.alloc bw4.size (Obj.cells #[(Value.slice (some ⟨ba4, oa4, none⟩) 48 ca4), (Value.slice (some ⟨bg4, og4, none⟩) 48 cg4)] 43)
        go_wp2_with (fail)
        obtain ⟨W5, hW5⟩ : ∃ W5, w4.alloc (Obj.cells #[(Value.slice (some ⟨ba4, oa4, none⟩) 48 ca4), (Value.slice (some ⟨bg4, og4, none⟩) 48 cg4)] 43) = W5 := ⟨_, rfl⟩
        obtain ⟨N, hN⟩ : ∃ N, w4.heap.size = N := ⟨_, rfl⟩
        have hN5 : W5.heap[N]? = some (.cells #[(Value.slice (some ⟨ba4, oa4, none⟩) 48 ca4), (Value.slice (some ⟨bg4, og4, none⟩) 48 cg4)] 43 (0, 0)) := by rw [← hW5, ← hN]; exact heap_alloc_new _ _
        have hm5 : MapAt W5 (Value.slice (some ⟨ba4, oa4, none⟩) 48 ca4) (Value.slice (some ⟨bg4, og4, none⟩) 48 cg4) ps1 gs := by rw [← hW5]; exact hm4.below ((Below.refl _ _).alloc (Nat.le_refl _) _)
        have hF5 : ∀ w', Below W5.heap.size W5 w' → (w'.cell? ⟨B, 0, none⟩ = some (Value.slice qa 48 ca) ∧ w'.cell? ⟨B, 1, none⟩ = some (Value.slice (some ⟨bg, og, none⟩) 48 cg) ∧ w'.cell? ⟨B + 1, 0, none⟩ = some (Value.int .i64 c) ∧ w'.cell? ⟨B + 1, 1, none⟩ = some (Value.int .i64 t)) ∧
            (w'.cell? ⟨N, 0, none⟩ = some (Value.slice (some ⟨ba4, oa4, none⟩) 48 ca4) ∧ w'.cell? ⟨N, 1, none⟩ = some (Value.slice (some ⟨bg4, og4, none⟩) 48 cg4)) ∧ w'.cell? ⟨ba4, oa4 + n * 2, none⟩ = some (Value.int .i64 c) ∧ w'.cell? ⟨ba4, oa4 + n * 2 + 1, none⟩ = some (Value.int .i64 t) ∧
            w'.cell? ⟨bg4, og4 + n, none⟩ = some (Value.int .i64 z) ∧ w'.cell? ⟨bg, og + n, none⟩ = some (Value.int .i64 z) := fun w' h => by
          have h9 : ∀ p v, p.block < w4.heap.size → w4.cell? p = some v → w'.cell? p = some v := fun p v hl hv => by
            rw [h.cell (by rw [← hW5]; simp; omega), ← hW5]; exact cell_old hv
          have hN9 : w'.heap[N]? = _ := (h.block N (by rw [← hW5, ← hN]; simp)).trans hN5
          exact ⟨⟨h9 _ _ (by show B < _; omega) f4.1, h9 _ _ (by show B < _; omega) f4.2.1, h9 _ _ lB f4.2.2.1, h9 _ _ lB f4.2.2.2⟩, ⟨by rw [cell_of_row _ _ _ _ _ _ hN9]; rfl, by rw [cell_of_row _ _ _ _ _ _ hN9]; rfl⟩, h9 _ _ hba4 d0, h9 _ _ hba4 d1, h9 _ _ hbg4 d2, h9 _ _ hbg9 dz4⟩
        have hsz45 : w4.heap.size ≤ W5.heap.size := by rw [← hW5]; simp
        rw [hW5] at bb4 ⊢
        rw [hN]
        clear hW5 hN hm4 f4 dz4 d0 d1 d2 hba4 hbg4 hbg9 bw4 hN5
        refine (take_any _ _ ps1 gs _ hm5).mono ?_
        rintro e w6 ⟨hs6, b6⟩
        have bw6 := bb4.trans (b6.mono bb4.size)
        have hk : ∃ (k ee : Nat), e = .returned (.tuple #[.int .i64 k, .int .i64 ee]) ∧ (ee = 0 ∧ n < k ∨ ee = 10) := by
          rcases hs6 with ⟨h, _⟩ | ⟨_, k, h1, h2, h3, _, rfl⟩ | ⟨_, _, rfl⟩
          · exact absurd HGOOD1.out h
          · refine ⟨k, 0, rfl, .inl ⟨rfl, ?_⟩⟩
            rw [HPS1.out] at h3
            obtain ⟨h4, h5⟩ := free_set (p := (c, t)) hc0 h3
            rcases Nat.lt_or_ge k n with h6 | h6
            · exact absurd h5 (HMIN.out k h1 h6)
            · omega
          · exact ⟨0, 10, rfl, .inr rfl⟩
        clear hs6
        obtain ⟨k, ee, rfl, hke⟩ := hk
        rcases hke with ⟨rfl, hnk⟩ | rfl
        · have hkI : decide (k ≤ n) = false := by simp; omega
          have F0 : ∀ x' : BW w6, x'.w.cell? ⟨N, 0, none⟩ = some (Value.slice (some ⟨ba4, oa4, none⟩) 48 ca4) := fun x' => (hF5 x'.w (b6.trans (x'.h.mono b6.size))).2.1.1
          have F1 : ∀ x' : BW w6, x'.w.cell? ⟨N, 1, none⟩ = some (Value.slice (some ⟨bg4, og4, none⟩) 48 cg4) := fun x' => (hF5 x'.w (b6.trans (x'.h.mono b6.size))).2.1.2
          have F2 : ∀ x' : BW w6, x'.w.cell? ⟨B, 1, none⟩ = some (Value.slice (some ⟨bg, og, none⟩) 48 cg) := fun x' => (hF5 x'.w (b6.trans (x'.h.mono b6.size))).1.2.1
          have F3 : ∀ x' : BW w6, x'.w.cell? ⟨B + 1, 0, none⟩ = some (Value.int .i64 c) := fun x' => (hF5 x'.w (b6.trans (x'.h.mono b6.size))).1.2.2.1
          have F4 : ∀ x' : BW w6, x'.w.cell? ⟨B + 1, 1, none⟩ = some (Value.int .i64 t) := fun x' => (hF5 x'.w (b6.trans (x'.h.mono b6.size))).1.2.2.2
          have F5 : ∀ x' : BW w6, x'.w.cell? ⟨ba4, oa4 + n * 2, none⟩ = some (Value.int .i64 c) := fun x' => (hF5 x'.w (b6.trans (x'.h.mono b6.size))).2.2.1
          have F6 : ∀ x' : BW w6, x'.w.cell? ⟨ba4, oa4 + n * 2 + 1, none⟩ = some (Value.int .i64 t) := fun x' => (hF5 x'.w (b6.trans (x'.h.mono b6.size))).2.2.2.1
          have HGa : ∀ x' : BW w6, SliceAt x'.w 1 (Value.slice (some ⟨bg4, og4, none⟩) 48 cg4) (gs.map fun x => [Value.int .i64 x]) := fun x' => hm5.hg.below (Nat.le_refl _) (b6.trans (x'.h.mono b6.size))
          have HGm : ∀ x' : BW w6, SliceAt x'.w 1 (Value.slice (some ⟨bg, og, none⟩) 48 cg) (gs.map fun x => [Value.int .i64 x]) := fun x' => hm.hg.below (Nat.le_refl _) (bw6.trans (x'.h.mono bw6.size))
          have hlg : gs.length ≤ 1000000000000000 := by rw [E2.out]; decide
          have HF5 := Lib.hid hF5
          have bb4s : w4.heap.size ≤ W5.heap.size := hsz45
          have HM5 := Lib.hid hm5
          have HM := Lib.hid hm
          clear hF5 hm5 hm e14 e24 hb0
          go_wp2_with (fail)
          refine wp_region_below (by kernel_rfl) (by kernel_rfl) ?_
          repeat (go_big_quiet_step ((go_at_call 25; exact call_below (eq_below _ _ gs gs _ (HGa _) (HGm _) hlg hlg rfl))))
          refine wpQuiet_nil ?_
          rintro _ ⟨wx, rfl⟩
          have b7 := b6.trans (wx.h.mono b6.size)
          have bw7 := bw6.trans (wx.h.mono bw6.size)
          generalize wx.w = w7 at b7 bw7 ⊢
          clear wx F0 F1 F2 F3 F4 F5 F6 HGa HGm b6 bw6
          obtain ⟨⟨y0, y1, y2, y3⟩, ⟨z0, z1⟩, _, _, _, zz⟩ := HF5.out w7 b7
          go_wp2_with (fail)
          refine (cut_any _ _ ps1 gs n c t z _ (HM5.out.below b7) HGOOD1.out hn48 HPN.out HZ9.out).mono ?_
          rintro e w8 ⟨⟨h, _⟩ | ⟨_, h, _⟩ | ⟨_, _, a8, g8, rfl, hm8⟩, b8⟩
          · exact absurd h hc0
          · exact absurd h (by have := HZL.out; omega)
          · obtain ⟨ps2, hps2⟩ : ∃ ps2, ps2 = ps1.set n (0, 0) := ⟨_, rfl⟩
            obtain ⟨gs2, hgs2⟩ : ∃ gs2, gs2 = gs.set n (z + 1) := ⟨_, rfl⟩
            rw [← hps2, ← hgs2] at hm8
            have hgood2 : GoodM ps2 gs2 := by rw [hps2, hgs2]; exact good_cut HGOOD1.out (by have := HZL.out; omega)
            have hpn2 : ps2[n]? = some (0, 0) := by rw [hps2, List.getElem?_set, if_pos rfl, if_pos (by rw [HGOOD1.out.1]; exact hn48)]
            have hgn2 : gs2[n]? = some (z + 1) := by rw [hgs2, List.getElem?_set, if_pos rfl, if_pos (by rw [HGOOD1.out.2.1]; exact hn48)]
            obtain ⟨qa8, qg8, ca8, cg8, ba8, oa8, bg8, og8, hc8⟩ := hm8.cells
            obtain ⟨rfl, rfl, va8, vg8, c08, c18⟩ := hc8
            obtain ⟨rfl, hba8⟩ := va8 n (by rw [hgood2.1]; exact hn48)
            obtain ⟨rfl, hbg8⟩ := vg8 n (by rw [hgood2.2.1]; exact hn48)
            have d0 := (c08 n _ hpn2).1
            have d1 := (c08 n _ hpn2).2
            have d2 := c18 n _ hgn2
            have e18 := hgood2.1
            have e28 := hgood2.2.1
            rw [e18, e28] at hm8 ⊢
            have b70 : Below W5.heap.size W5 w8 := b7.trans (b8.mono b7.size)
            have bw8 := bw7.trans (b8.mono bw7.size)
            have f8 := HF5.out w8 b70
            have lB8 : B < w8.heap.size := Nat.lt_of_lt_of_le (Nat.lt_of_lt_of_le (by omega) bb4s) b70.size
            have lbg8 : bg < w8.heap.size := Nat.lt_of_lt_of_le hbg bw8.size
            have HPS2 := Lib.hid hps2
            have HGS2 := Lib.hid hgs2
            have HGOOD2 := Lib.hid hgood2
            have HPN2 := Lib.hid hpn2
            have HGN2 := Lib.hid hgn2
            clear hps2 hgs2 hgood2 hpn2 hgn2 va8 vg8 c08 c18 e18 e28 y0 y1 y2 y3 z0 z1 zz b7 bw7 b8
            go_wp2_with (fail)
            have bw9 := bw8.alloc bw8.size (Obj.cells #[(Value.slice (some ⟨ba8, oa8, none⟩) 48 ca8), (Value.slice (some ⟨bg8, og8, none⟩) 48 cg8)] 43)
            obtain ⟨W9, hW9⟩ : ∃ W9, w8.alloc (Obj.cells #[(Value.slice (some ⟨ba8, oa8, none⟩) 48 ca8), (Value.slice (some ⟨bg8, og8, none⟩) 48 cg8)] 43) = W9 := ⟨_, rfl⟩
            obtain ⟨M, hM⟩ : ∃ M, w8.heap.size = M := ⟨_, rfl⟩
            have hM9 : W9.heap[M]? = some (.cells #[(Value.slice (some ⟨ba8, oa8, none⟩) 48 ca8), (Value.slice (some ⟨bg8, og8, none⟩) 48 cg8)] 43 (0, 0)) := by rw [← hW9, ← hM]; exact heap_alloc_new _ _
            have hm9 : MapAt W9 (Value.slice (some ⟨ba8, oa8, none⟩) 48 ca8) (Value.slice (some ⟨bg8, og8, none⟩) 48 cg8) ps2 gs2 := by rw [← hW9]; exact hm8.below ((Below.refl _ _).alloc (Nat.le_refl _) _)
            have hF9 : ∀ w', Below W9.heap.size W9 w' → w'.cell? ⟨B, 1, none⟩ = some (Value.slice (some ⟨bg, og, none⟩) 48 cg) ∧ w'.cell? ⟨M, 0, none⟩ = some (Value.slice (some ⟨ba8, oa8, none⟩) 48 ca8) ∧ w'.cell? ⟨M, 1, none⟩ = some (Value.slice (some ⟨bg8, og8, none⟩) 48 cg8) ∧ w'.cell? ⟨ba8, oa8 + n * 2, none⟩ = some (Value.int .i64 0) ∧ w'.cell? ⟨ba8, oa8 + n * 2 + 1, none⟩ = some (Value.int .i64 0) ∧
                w'.cell? ⟨bg8, og8 + n, none⟩ = some (Value.int .i64 (z + 1)) ∧ w'.cell? ⟨bg, og + n, none⟩ = some (Value.int .i64 z) := fun w' h => by
              have h9 : ∀ p v, p.block < w8.heap.size → w8.cell? p = some v → w'.cell? p = some v := fun p v hl hv => by
                rw [h.cell (by rw [← hW9]; simp; omega), ← hW9]; exact cell_old hv
              have hM0 : w'.heap[M]? = _ := (h.block M (by rw [← hW9, ← hM]; simp)).trans hM9
              exact ⟨h9 _ _ lB8 f8.1.2.1, by rw [cell_of_row _ _ _ _ _ _ hM0]; rfl, by rw [cell_of_row _ _ _ _ _ _ hM0]; rfl, h9 _ _ hba8 d0, h9 _ _ hba8 d1, h9 _ _ hbg8 d2, h9 _ _ lbg8 f8.2.2.2.2.2⟩
            rw [hW9]
            rw [hM]
            rw [hW9] at bw9
            clear hW9 hM hm8 f8 d0 d1 d2 hba8 hbg8 lbg8 lB8 hM9 bw8 b70
            have F0 : ∀ x' : BW W9, x'.w.cell? ⟨B, 1, none⟩ = some (Value.slice (some ⟨bg, og, none⟩) 48 cg) := fun x' => (hF9 x'.w x'.h).1
            have F1 : ∀ x' : BW W9, x'.w.cell? ⟨M, 0, none⟩ = some (Value.slice (some ⟨ba8, oa8, none⟩) 48 ca8) := fun x' => (hF9 x'.w x'.h).2.1
            have F2 : ∀ x' : BW W9, x'.w.cell? ⟨M, 1, none⟩ = some (Value.slice (some ⟨bg8, og8, none⟩) 48 cg8) := fun x' => (hF9 x'.w x'.h).2.2.1
            have F3 : ∀ x' : BW W9, x'.w.cell? ⟨ba8, oa8 + n * 2, none⟩ = some (Value.int .i64 0) := fun x' => (hF9 x'.w x'.h).2.2.2.1
            have F4 : ∀ x' : BW W9, x'.w.cell? ⟨ba8, oa8 + n * 2 + 1, none⟩ = some (Value.int .i64 0) := fun x' => (hF9 x'.w x'.h).2.2.2.2.1
            have F5 : ∀ x' : BW W9, x'.w.cell? ⟨bg8, og8 + n, none⟩ = some (Value.int .i64 (z + 1)) := fun x' => (hF9 x'.w x'.h).2.2.2.2.2.1
            have F6 : ∀ x' : BW W9, x'.w.cell? ⟨bg, og + n, none⟩ = some (Value.int .i64 z) := fun x' => (hF9 x'.w x'.h).2.2.2.2.2.2
            have HF9 := Lib.hid hF9
            have HM9 := Lib.hid hm9
            clear hF9 hm9
            refine wp_region_below (by kernel_rfl) (by kernel_rfl) ?_
            repeat (go_big_quiet_step (fail))
            refine wpQuiet_nil ?_
            rintro _ ⟨wx, rfl⟩
            have b10 := wx.h
            have bw10 := bw9.trans (wx.h.mono bw9.size)
            generalize wx.w = w10 at b10 bw10 ⊢
            clear wx F0 F1 F2 F3 F4 F5 F6
            obtain ⟨y0, z0, z1, z2, z3, z4, z5⟩ := HF9.out w10 b10
            go_wp2_with (fail)
            refine (cut_any _ _ ps2 gs2 n 0 0 (z + 1) _ (HM9.out.below b10) HGOOD2.out hn48 HPN2.out HGN2.out).mono ?_
            rintro e w11 ⟨⟨_, rfl⟩ | ⟨h, _⟩ | ⟨h, _⟩, b11⟩
            · have b11' : Below W9.heap.size W9 w11 := b10.trans (b11.mono b10.size)
              have bw11 := bw9.trans (b11'.mono bw9.size)
              clear y0 z0 z1 z2 z3 z4 z5 b10 b11 bw10
              obtain ⟨y0, z0, z1, z2, z3, z4, z5⟩ := HF9.out w11 b11'
              go_wp2_with (fail)
              refine (take_any _ _ ps2 gs2 _ (HM9.out.below b11')).mono ?_
              rintro e w12 ⟨hs12, b12⟩
              have b12' : Below W9.heap.size W9 w12 := b11'.trans (b12.mono b11'.size)
              have bw12 := bw9.trans (b12'.mono bw9.size)
              clear y0 z0 z1 z2 z3 z4 z5 b11' b12 bw11
              obtain ⟨y0, z0, z1, z2, z3, z4, z5⟩ := HF9.out w12 b12'
              have hfin : e = .returned (.tuple #[.int .i64 n, .int .i64 0]) ∨ z + 1 = 2147483647 ∧ ((∃ j : Nat, j ≠ n ∧ e = .returned (.tuple #[.int .i64 j, .int .i64 0])) ∨ e = .returned (.tuple #[.int .i64 0, .int .i64 10])) := by
                by_cases hz1 : z + 1 < 2147483647
                · have hfn : FreeAt ps2 gs2 n := ⟨(0, 0), z + 1, HPN2.out, HGN2.out, rfl, hz1⟩
                  rcases hs12 with ⟨h, _⟩ | ⟨_, j, h1, h2, h3, h4, rfl⟩ | ⟨_, h, _⟩
                  · exact absurd HGOOD2.out h
                  · left
                    have hjn : j = n := by
                      rcases Nat.lt_trichotomy j n with h5 | h5 | h5
                      · rw [HPS2.out, HPS1.out, HGS2.out] at h3
                        exact absurd (free_cut (by omega) h3) (HMIN.out j h1 h5)
                      · exact h5
                      · exact absurd hfn (h4 n hn1 h5)
                    rw [hjn]
                  · exact absurd hfn (h n hn1 hn48)
                · right
                  refine ⟨by have := HZL.out; omega, ?_⟩
                  rcases hs12 with ⟨h, _⟩ | ⟨_, j, h1, h2, ⟨p8, g8, hp8, hg8, _, hlt8⟩, h4, rfl⟩ | ⟨_, h, rfl⟩
                  · exact absurd HGOOD2.out h
                  · refine .inl ⟨j, fun h5 => ?_, rfl⟩
                    rw [h5, HGN2.out] at hg8
                    have := Option.some.inj hg8
                    omega
                  · exact .inr rfl
              clear hs12
              rcases hfin with rfl | ⟨hz1, ⟨j, hjn, rfl⟩ | rfl⟩
              · go_wp2_with (fail)
                go_ret
                exact ⟨rfl, bw12⟩
              · have hjb : (j == n) = false := by simp; exact hjn
                have hjb2 : ((j : Int) == (n : Int)) = false := by simp; omega
                rw [hz1] at z4
                go_wp2_with (fail)
                go_ret
                exact ⟨rfl, bw12⟩
              · rw [hz1] at z4
                go_wp2_with (fail)
                go_ret
                exact ⟨rfl, bw12⟩
            · exact absurd rfl h
            · exact absurd rfl h
        · have F0 : ∀ x' : BW w6, x'.w.cell? ⟨N, 0, none⟩ = some (Value.slice (some ⟨ba4, oa4, none⟩) 48 ca4) := fun x' => (hF5 x'.w (b6.trans (x'.h.mono b6.size))).2.1.1
          have F1 : ∀ x' : BW w6, x'.w.cell? ⟨N, 1, none⟩ = some (Value.slice (some ⟨bg4, og4, none⟩) 48 cg4) := fun x' => (hF5 x'.w (b6.trans (x'.h.mono b6.size))).2.1.2
          have F2 : ∀ x' : BW w6, x'.w.cell? ⟨B, 1, none⟩ = some (Value.slice (some ⟨bg, og, none⟩) 48 cg) := fun x' => (hF5 x'.w (b6.trans (x'.h.mono b6.size))).1.2.1
          have F3 : ∀ x' : BW w6, x'.w.cell? ⟨B + 1, 0, none⟩ = some (Value.int .i64 c) := fun x' => (hF5 x'.w (b6.trans (x'.h.mono b6.size))).1.2.2.1
          have F4 : ∀ x' : BW w6, x'.w.cell? ⟨B + 1, 1, none⟩ = some (Value.int .i64 t) := fun x' => (hF5 x'.w (b6.trans (x'.h.mono b6.size))).1.2.2.2
          have F5 : ∀ x' : BW w6, x'.w.cell? ⟨ba4, oa4 + n * 2, none⟩ = some (Value.int .i64 c) := fun x' => (hF5 x'.w (b6.trans (x'.h.mono b6.size))).2.2.1
          have F6 : ∀ x' : BW w6, x'.w.cell? ⟨ba4, oa4 + n * 2 + 1, none⟩ = some (Value.int .i64 t) := fun x' => (hF5 x'.w (b6.trans (x'.h.mono b6.size))).2.2.2.1
          have HGa : ∀ x' : BW w6, SliceAt x'.w 1 (Value.slice (some ⟨bg4, og4, none⟩) 48 cg4) (gs.map fun x => [Value.int .i64 x]) := fun x' => hm5.hg.below (Nat.le_refl _) (b6.trans (x'.h.mono b6.size))
          have HGm : ∀ x' : BW w6, SliceAt x'.w 1 (Value.slice (some ⟨bg, og, none⟩) 48 cg) (gs.map fun x => [Value.int .i64 x]) := fun x' => hm.hg.below (Nat.le_refl _) (bw6.trans (x'.h.mono bw6.size))
          have hlg : gs.length ≤ 1000000000000000 := by rw [E2.out]; decide
          have HF5 := Lib.hid hF5
          have bb4s : w4.heap.size ≤ W5.heap.size := hsz45
          have HM5 := Lib.hid hm5
          have HM := Lib.hid hm
          clear hF5 hm5 hm e14 e24 hb0
          go_wp2_with (fail)
          refine wp_region_below (by kernel_rfl) (by kernel_rfl) ?_
          repeat (go_big_quiet_step ((go_at_call 25; exact call_below (eq_below _ _ gs gs _ (HGa _) (HGm _) hlg hlg rfl))))
          refine wpQuiet_nil ?_
          rintro _ ⟨wx, rfl⟩
          have b7 := b6.trans (wx.h.mono b6.size)
          have bw7 := bw6.trans (wx.h.mono bw6.size)
          generalize wx.w = w7 at b7 bw7 ⊢
          clear wx F0 F1 F2 F3 F4 F5 F6 HGa HGm b6 bw6
          obtain ⟨⟨y0, y1, y2, y3⟩, ⟨z0, z1⟩, _, _, _, zz⟩ := HF5.out w7 b7
          go_wp2_with (fail)
          refine (cut_any _ _ ps1 gs n c t z _ (HM5.out.below b7) HGOOD1.out hn48 HPN.out HZ9.out).mono ?_
          rintro e w8 ⟨⟨h, _⟩ | ⟨_, h, _⟩ | ⟨_, _, a8, g8, rfl, hm8⟩, b8⟩
          · exact absurd h hc0
          · exact absurd h (by have := HZL.out; omega)
          · obtain ⟨ps2, hps2⟩ : ∃ ps2, ps2 = ps1.set n (0, 0) := ⟨_, rfl⟩
            obtain ⟨gs2, hgs2⟩ : ∃ gs2, gs2 = gs.set n (z + 1) := ⟨_, rfl⟩
            rw [← hps2, ← hgs2] at hm8
            have hgood2 : GoodM ps2 gs2 := by rw [hps2, hgs2]; exact good_cut HGOOD1.out (by have := HZL.out; omega)
            have hpn2 : ps2[n]? = some (0, 0) := by rw [hps2, List.getElem?_set, if_pos rfl, if_pos (by rw [HGOOD1.out.1]; exact hn48)]
            have hgn2 : gs2[n]? = some (z + 1) := by rw [hgs2, List.getElem?_set, if_pos rfl, if_pos (by rw [HGOOD1.out.2.1]; exact hn48)]
            obtain ⟨qa8, qg8, ca8, cg8, ba8, oa8, bg8, og8, hc8⟩ := hm8.cells
            obtain ⟨rfl, rfl, va8, vg8, c08, c18⟩ := hc8
            obtain ⟨rfl, hba8⟩ := va8 n (by rw [hgood2.1]; exact hn48)
            obtain ⟨rfl, hbg8⟩ := vg8 n (by rw [hgood2.2.1]; exact hn48)
            have d0 := (c08 n _ hpn2).1
            have d1 := (c08 n _ hpn2).2
            have d2 := c18 n _ hgn2
            have e18 := hgood2.1
            have e28 := hgood2.2.1
            rw [e18, e28] at hm8 ⊢
            have b70 : Below W5.heap.size W5 w8 := b7.trans (b8.mono b7.size)
            have bw8 := bw7.trans (b8.mono bw7.size)
            have f8 := HF5.out w8 b70
            have lB8 : B < w8.heap.size := Nat.lt_of_lt_of_le (Nat.lt_of_lt_of_le (by omega) bb4s) b70.size
            have lbg8 : bg < w8.heap.size := Nat.lt_of_lt_of_le hbg bw8.size
            have HPS2 := Lib.hid hps2
            have HGS2 := Lib.hid hgs2
            have HGOOD2 := Lib.hid hgood2
            have HPN2 := Lib.hid hpn2
            have HGN2 := Lib.hid hgn2
            clear hps2 hgs2 hgood2 hpn2 hgn2 va8 vg8 c08 c18 e18 e28 y0 y1 y2 y3 z0 z1 zz b7 bw7 b8
            go_wp2_with (fail)
            have bw9 := bw8.alloc bw8.size (Obj.cells #[(Value.slice (some ⟨ba8, oa8, none⟩) 48 ca8), (Value.slice (some ⟨bg8, og8, none⟩) 48 cg8)] 43)
            obtain ⟨W9, hW9⟩ : ∃ W9, w8.alloc (Obj.cells #[(Value.slice (some ⟨ba8, oa8, none⟩) 48 ca8), (Value.slice (some ⟨bg8, og8, none⟩) 48 cg8)] 43) = W9 := ⟨_, rfl⟩
            obtain ⟨M, hM⟩ : ∃ M, w8.heap.size = M := ⟨_, rfl⟩
            have hM9 : W9.heap[M]? = some (.cells #[(Value.slice (some ⟨ba8, oa8, none⟩) 48 ca8), (Value.slice (some ⟨bg8, og8, none⟩) 48 cg8)] 43 (0, 0)) := by rw [← hW9, ← hM]; exact heap_alloc_new _ _
            have hm9 : MapAt W9 (Value.slice (some ⟨ba8, oa8, none⟩) 48 ca8) (Value.slice (some ⟨bg8, og8, none⟩) 48 cg8) ps2 gs2 := by rw [← hW9]; exact hm8.below ((Below.refl _ _).alloc (Nat.le_refl _) _)
            have hF9 : ∀ w', Below W9.heap.size W9 w' → w'.cell? ⟨B, 1, none⟩ = some (Value.slice (some ⟨bg, og, none⟩) 48 cg) ∧ w'.cell? ⟨M, 0, none⟩ = some (Value.slice (some ⟨ba8, oa8, none⟩) 48 ca8) ∧ w'.cell? ⟨M, 1, none⟩ = some (Value.slice (some ⟨bg8, og8, none⟩) 48 cg8) ∧ w'.cell? ⟨ba8, oa8 + n * 2, none⟩ = some (Value.int .i64 0) ∧ w'.cell? ⟨ba8, oa8 + n * 2 + 1, none⟩ = some (Value.int .i64 0) ∧
                w'.cell? ⟨bg8, og8 + n, none⟩ = some (Value.int .i64 (z + 1)) ∧ w'.cell? ⟨bg, og + n, none⟩ = some (Value.int .i64 z) := fun w' h => by
              have h9 : ∀ p v, p.block < w8.heap.size → w8.cell? p = some v → w'.cell? p = some v := fun p v hl hv => by
                rw [h.cell (by rw [← hW9]; simp; omega), ← hW9]; exact cell_old hv
              have hM0 : w'.heap[M]? = _ := (h.block M (by rw [← hW9, ← hM]; simp)).trans hM9
              exact ⟨h9 _ _ lB8 f8.1.2.1, by rw [cell_of_row _ _ _ _ _ _ hM0]; rfl, by rw [cell_of_row _ _ _ _ _ _ hM0]; rfl, h9 _ _ hba8 d0, h9 _ _ hba8 d1, h9 _ _ hbg8 d2, h9 _ _ lbg8 f8.2.2.2.2.2⟩
            rw [hW9]
            rw [hM]
            rw [hW9] at bw9
            clear hW9 hM hm8 f8 d0 d1 d2 hba8 hbg8 lbg8 lB8 hM9 bw8 b70
            have F0 : ∀ x' : BW W9, x'.w.cell? ⟨B, 1, none⟩ = some (Value.slice (some ⟨bg, og, none⟩) 48 cg) := fun x' => (hF9 x'.w x'.h).1
            have F1 : ∀ x' : BW W9, x'.w.cell? ⟨M, 0, none⟩ = some (Value.slice (some ⟨ba8, oa8, none⟩) 48 ca8) := fun x' => (hF9 x'.w x'.h).2.1
            have F2 : ∀ x' : BW W9, x'.w.cell? ⟨M, 1, none⟩ = some (Value.slice (some ⟨bg8, og8, none⟩) 48 cg8) := fun x' => (hF9 x'.w x'.h).2.2.1
            have F3 : ∀ x' : BW W9, x'.w.cell? ⟨ba8, oa8 + n * 2, none⟩ = some (Value.int .i64 0) := fun x' => (hF9 x'.w x'.h).2.2.2.1
            have F4 : ∀ x' : BW W9, x'.w.cell? ⟨ba8, oa8 + n * 2 + 1, none⟩ = some (Value.int .i64 0) := fun x' => (hF9 x'.w x'.h).2.2.2.2.1
            have F5 : ∀ x' : BW W9, x'.w.cell? ⟨bg8, og8 + n, none⟩ = some (Value.int .i64 (z + 1)) := fun x' => (hF9 x'.w x'.h).2.2.2.2.2.1
            have F6 : ∀ x' : BW W9, x'.w.cell? ⟨bg, og + n, none⟩ = some (Value.int .i64 z) := fun x' => (hF9 x'.w x'.h).2.2.2.2.2.2
            have HF9 := Lib.hid hF9
            have HM9 := Lib.hid hm9
            clear hF9 hm9
            refine wp_region_below (by kernel_rfl) (by kernel_rfl) ?_
            repeat (go_big_quiet_step (fail))
            refine wpQuiet_nil ?_
            rintro _ ⟨wx, rfl⟩
            have b10 := wx.h
            have bw10 := bw9.trans (wx.h.mono bw9.size)
            generalize wx.w = w10 at b10 bw10 ⊢
            clear wx F0 F1 F2 F3 F4 F5 F6
            obtain ⟨y0, z0, z1, z2, z3, z4, z5⟩ := HF9.out w10 b10
            go_wp2_with (fail)
            refine (cut_any _ _ ps2 gs2 n 0 0 (z + 1) _ (HM9.out.below b10) HGOOD2.out hn48 HPN2.out HGN2.out).mono ?_
            rintro e w11 ⟨⟨_, rfl⟩ | ⟨h, _⟩ | ⟨h, _⟩, b11⟩
            · have b11' : Below W9.heap.size W9 w11 := b10.trans (b11.mono b10.size)
              have bw11 := bw9.trans (b11'.mono bw9.size)
              clear y0 z0 z1 z2 z3 z4 z5 b10 b11 bw10
              obtain ⟨y0, z0, z1, z2, z3, z4, z5⟩ := HF9.out w11 b11'
              go_wp2_with (fail)
              refine (take_any _ _ ps2 gs2 _ (HM9.out.below b11')).mono ?_
              rintro e w12 ⟨hs12, b12⟩
              have b12' : Below W9.heap.size W9 w12 := b11'.trans (b12.mono b11'.size)
              have bw12 := bw9.trans (b12'.mono bw9.size)
              clear y0 z0 z1 z2 z3 z4 z5 b11' b12 bw11
              obtain ⟨y0, z0, z1, z2, z3, z4, z5⟩ := HF9.out w12 b12'
              have hfin : e = .returned (.tuple #[.int .i64 n, .int .i64 0]) ∨ z + 1 = 2147483647 ∧ ((∃ j : Nat, j ≠ n ∧ e = .returned (.tuple #[.int .i64 j, .int .i64 0])) ∨ e = .returned (.tuple #[.int .i64 0, .int .i64 10])) := by
                by_cases hz1 : z + 1 < 2147483647
                · have hfn : FreeAt ps2 gs2 n := ⟨(0, 0), z + 1, HPN2.out, HGN2.out, rfl, hz1⟩
                  rcases hs12 with ⟨h, _⟩ | ⟨_, j, h1, h2, h3, h4, rfl⟩ | ⟨_, h, _⟩
                  · exact absurd HGOOD2.out h
                  · left
                    have hjn : j = n := by
                      rcases Nat.lt_trichotomy j n with h5 | h5 | h5
                      · rw [HPS2.out, HPS1.out, HGS2.out] at h3
                        exact absurd (free_cut (by omega) h3) (HMIN.out j h1 h5)
                      · exact h5
                      · exact absurd hfn (h4 n hn1 h5)
                    rw [hjn]
                  · exact absurd hfn (h n hn1 hn48)
                · right
                  refine ⟨by have := HZL.out; omega, ?_⟩
                  rcases hs12 with ⟨h, _⟩ | ⟨_, j, h1, h2, ⟨p8, g8, hp8, hg8, _, hlt8⟩, h4, rfl⟩ | ⟨_, h, rfl⟩
                  · exact absurd HGOOD2.out h
                  · refine .inl ⟨j, fun h5 => ?_, rfl⟩
                    rw [h5, HGN2.out] at hg8
                    have := Option.some.inj hg8
                    omega
                  · exact .inr rfl
              clear hs12
              rcases hfin with rfl | ⟨hz1, ⟨j, hjn, rfl⟩ | rfl⟩
              · go_wp2_with (fail)
                go_ret
                exact ⟨rfl, bw12⟩
              · have hjb : (j == n) = false := by simp; exact hjn
                have hjb2 : ((j : Int) == (n : Int)) = false := by simp; omega
                rw [hz1] at z4
                go_wp2_with (fail)
                go_ret
                exact ⟨rfl, bw12⟩
              · rw [hz1] at z4
                go_wp2_with (fail)
                go_ret
                exact ⟨rfl, bw12⟩
            · exact absurd rfl h
            · exact absurd rfl h
    · clear hF hset htake hgood
      go_wp2_with (fail)
      go_ret
      exact ⟨rfl, bw3⟩
  · clear hset va c0 vg c1
    go_enter Try.func5, Try.ntmps5
    go_wp2_with (fail)
    obtain ⟨W0, hW0⟩ : ∃ W0, (W.alloc (Obj.cells #[Value.slice qa ps.length ca, Value.slice qg gs.length cg] 43)).alloc (Obj.cells #[Value.int .i64 c, Value.int .i64 t] 45) = W0 := ⟨_, rfl⟩
    have hb0 : Below W.heap.size W W0 := by rw [← hW0]; exact ((Below.refl W.heap.size W).alloc (Nat.le_refl _) _).alloc (by simp) _
    have x0 : W0.heap[W.heap.size]? = some (.cells #[Value.slice qa ps.length ca, Value.slice qg gs.length cg] 43 (0, 0)) := by
      rw [← hW0, heap_alloc_old _ _ (by simp)]; exact heap_alloc_new _ _
    have x1 : W0.heap[W.heap.size + 1]? = some (.cells #[Value.int .i64 c, Value.int .i64 t] 45 (0, 0)) := by
      rw [← hW0]
      have := heap_alloc_new (W.alloc (Obj.cells #[Value.slice qa ps.length ca, Value.slice qg gs.length cg] 43)) (Obj.cells #[Value.int .i64 c, Value.int .i64 t] 45)
      simpa using this
    rw [hW0]
    clear hW0
    obtain ⟨B, hB⟩ : ∃ B, W.heap.size = B := ⟨_, rfl⟩
    rw [hB] at x0 x1 ⊢
    have hBl : W.heap.size ≤ B := by omega
    clear hB
    have l1 := (Array.getElem?_eq_some_iff.1 x1).1
    have hF : ∀ w', Below W0.heap.size W0 w' → w'.cell? ⟨B, 0, none⟩ = some (Value.slice qa ps.length ca) ∧ w'.cell? ⟨B, 1, none⟩ = some (Value.slice qg gs.length cg) ∧ w'.cell? ⟨B + 1, 0, none⟩ = some (Value.int .i64 c) ∧ w'.cell? ⟨B + 1, 1, none⟩ = some (Value.int .i64 t) := fun w' h => by
      have y0 := (h.block B (by omega)).trans x0
      have y1 := (h.block (B + 1) l1).trans x1
      exact ⟨by rw [cell_of_row _ _ _ _ _ _ y0]; rfl, by rw [cell_of_row _ _ _ _ _ _ y0]; rfl, by rw [cell_of_row _ _ _ _ _ _ y1]; rfl, by rw [cell_of_row _ _ _ _ _ _ y1]; rfl⟩
    refine (fresh_any W0).mono ?_
    rintro e w1 ⟨⟨a1, g1, rfl, hm1⟩, b1⟩
    obtain ⟨qa1, qg1, ca1, cg1, _, _, _, _, hc1⟩ := hm1.cells
    obtain ⟨rfl, rfl, _, _, _, _⟩ := hc1
    go_wp2_with (fail)
    refine (take_any _ _ _ _ _ hm1).mono ?_
    rintro e w2 ⟨hs2, b2⟩
    have he2 := take_zero hs2
    subst he2
    have b2' : Below W0.heap.size W0 w2 := b1.trans (b2.mono b1.size)
    obtain ⟨y0, y1, y2, y3⟩ := hF w2 b2'
    clear hm1 hs2 b1 b2
    go_wp2_with (fail)
    refine (htake _ (hm.below (hb0.trans (b2'.mono hb0.size)))).mono ?_
    rintro e w3 ⟨hs3, b3⟩
    have b3' : Below W0.heap.size W0 w3 := b2'.trans (b3.mono b2'.size)
    have bw3 : Below W.heap.size W w3 := hb0.trans (b3'.mono hb0.size)
    clear y0 y1 y2 y3 b2' b3
    obtain ⟨y0, y1, y2, y3⟩ := hF w3 b3'
    rcases hs3 with ⟨_, rfl⟩ | ⟨h, _⟩ | ⟨h, _⟩
    · clear hF htake hgood
      go_wp2_with (fail)
      go_ret
      exact ⟨rfl, bw3⟩
    · exact absurd h hgood
    · exact absurd h hgood
end Go.Proofs.Ytdjnhbaipfkiaaa.lawImapTurns
