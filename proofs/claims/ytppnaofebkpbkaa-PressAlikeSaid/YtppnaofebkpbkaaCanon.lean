/-
  lens.Canon: what it answers, and the walk.
-/
import Derived.Test.YtppnaofebkpbkaaLens
import Derived.Test.YtppnaofebkpbkaaRow
namespace Go.Proofs.Ytppnaofebkpbkaa.lens
open Go.RowKit kit
set_option linter.unusedVariables false

/-- how many are j -/
def cnt : List Int → Nat → Nat
  | [], _ => 0
  | x :: l, j => (if x = (j : Int) then 1 else 0) + cnt l j
theorem cnt_app (a b : List Int) (j : Nat) : cnt (a ++ b) j = cnt a j + cnt b j := by
  induction a with
  | nil => simp [cnt]
  | cons x a ih => rw [List.cons_append, cnt, cnt, ih, Nat.add_assoc]
theorem cnt_next {l : List Int} {k : Nat} {x : Int} (hp : l[k]? = some x) (j : Nat) : cnt (l.take (k + 1)) j = cnt (l.take k) j + (if x = (j : Int) then 1 else 0) := by
  rw [take_one hp, cnt_app]; rfl
theorem cnt_le (l : List Int) (j : Nat) : cnt l j ≤ l.length := by
  induction l with
  | nil => simp [cnt]
  | cons x l ih => rw [cnt, List.length_cons]; split <;> omega
/-- the first code of each length -/
def nxt (l : List Int) : Nat → Nat
  | 0 => 0
  | 1 => 0
  | w + 2 => (nxt l (w + 1) + cnt l (w + 1)) * 2
theorem nxt_succ (l : List Int) (w : Nat) (h : 1 ≤ w) : nxt l (w + 1) = (nxt l w + cnt l w) * 2 := by
  obtain ⟨v, rfl⟩ : ∃ v, w = v + 1 := ⟨w - 1, by omega⟩
  rfl
theorem nxt_le (l : List Int) (h : l.length ≤ 320) : ∀ w, nxt l w + 640 ≤ 640 * 2 ^ w := by
  intro w
  induction w with
  | zero => simp [nxt]
  | succ w ih =>
    cases w with
    | zero => simp [nxt]
    | succ w =>
      rw [nxt_succ _ _ (by omega), Nat.pow_succ]
      have := cnt_le l (w + 1)
      omega
theorem nxt_bd (l : List Int) (h : l.length ≤ 320) (w : Nat) (hw : w ≤ 16) : nxt l w ≤ 41943040 := by
  have h1 := nxt_le l h w
  have h2 : 2 ^ w ≤ 2 ^ 16 := Nat.pow_le_pow_right (by decide) hw
  have h3 : (2 : Nat) ^ 16 = 65536 := by decide
  omega
/-- the code of the element i -/
def codeAt (l : List Int) (i : Nat) : Nat :=
  match l[i]? with
  | some x => if 0 < x then nxt l x.toNat + cnt (l.take i) x.toNat else 0
  | none => 0

def iv (n : Nat) : Value := .int .i64 (n : Int)
def CanonSays (xs : List Int) (W : World) (e : Ending) (w' : World) : Prop :=
  (canonE xs ≠ 0 ∧ e = .returned (.tuple #[.slice none 0 0, .int .i64 (canonE xs : Int)]) ∨
   canonE xs = 0 ∧ ∃ G, e = .returned (.tuple #[.slice (some ⟨G, 0, none⟩) xs.length xs.length, .int .i64 0]) ∧ W.heap.size ≤ G ∧ w'.rowIs G 3 xs.length (fun i => iv (codeAt xs i))) ∧ Below W.heap.size W w'

def nx (l : List Int) (i j : Nat) : Nat := nxt l j + (if j = 0 then 0 else cnt (l.take i) j)
theorem nx_zero (l : List Int) (j : Nat) : nx l 0 j = nxt l j := by unfold nx; simp [cnt]
theorem nx_next {l : List Int} {i m : Nat} (hp : l[i]? = some (m : Int)) (j : Nat) : nx l (i + 1) j = nx l i j + (if j = m ∧ 0 < m then 1 else 0) := by
  unfold nx
  rw [cnt_next hp j]
  by_cases h0 : j = 0
  · subst h0
    rw [if_pos rfl, if_pos rfl, if_neg (by omega)]
  · rw [if_neg h0, if_neg h0]
    by_cases h : j = m
    · subst h; rw [if_pos rfl, if_pos ⟨rfl, by omega⟩]; omega
    · rw [if_neg (by omega), if_neg (fun h2 => h h2.1)]; omega
theorem code_pos {l : List Int} {i m : Nat} (hp : l[i]? = some (m : Int)) (hm : 0 < m) : codeAt l i = nx l i m := by
  unfold codeAt nx
  rw [hp]
  simp only
  rw [if_pos (by omega), if_neg (by omega)]
  rfl
theorem code_zero {l : List Int} {i : Nat} (hp : l[i]? = some ((0 : Nat) : Int)) : codeAt l i = 0 := by
  unfold codeAt
  rw [hp]
  rfl
theorem nx_bd (l : List Int) (h : l.length ≤ 320) (i j : Nat) (hj : j ≤ 16) : nx l i j ≤ 41943360 := by
  unfold nx
  have h1 := nxt_bd l h j hj
  have h2 := cnt_le (l.take i) j
  simp at h2
  split <;> omega

theorem zeroA : (Try.prog.info? 132).map (·.zero) = some (some (.agg (Array.replicate 17 (.int .i64 0)))) := by kernel_rfl
theorem infoI : (Try.prog.info? 3).map (fun i => (i.zero, i.size, i.bytes)) = some (some (.int .i64 0), 1, 8) := by kernel_rfl

set_option maxHeartbeats 1000000 in
set_option maxRecDepth 100000 in
theorem canon_any (v : Value) (xs : List Int) (W : World) (hs : SliceAt W 1 v (xs.map rowI)) (hg : ∀ x ∈ xs, (Lit.int .i64 x).wf = true) (hn : xs.length ≤ 1000000000000000) :
    Calls Try.prog 61 #[v] W (CanonSays xs W) := by
  have hfill := fun w => fill_any v xs w
  obtain ⟨q, cap, b, off, rfl, hq, hc⟩ := hs.view
  simp only [List.length_map] at hq hfill hs ⊢
  have HQ := Lib.hid hq
  have HC : Hid (∀ k x, xs[k]? = some x → W.cell? ⟨b, off + k, none⟩ = some (.int .i64 x)) := fun k p hx => by
    have := hc k _ (by rw [List.getElem?_map, hx]; rfl) 0 _ rfl
    simpa [Nat.mul_one] using this
  clear hq hc
  by_cases hE : lensE xs = 0
  · by_cases hO : 32768 < fillN xs
    · have hF : fillA xs = fillN xs := by rw [fillA, if_pos hE]
      have hCE : canonE xs = 6 := by rw [canonE, if_neg (by rw [hE]; decide), if_pos hO]
      have hOI : (32768 : Int) < (fillN xs : Int) := by omega
      go_enter Try.func61, Try.ntmps61
      go_wp2_with (fail)
      refine (hfill _ hs hg hn).mono ?_
      rintro e w' ⟨rfl, rfl⟩
      rw [hE, hF]
      clear hE hF
      go_wp2_with (fail)
      go_ret2
      exact ⟨.inl ⟨by rw [hCE]; decide, by rw [hCE]; rfl⟩, Below.refl _ _⟩
    · have hF : fillA xs = fillN xs := by rw [fillA, if_pos hE]
      have hCE : canonE xs = 0 := by rw [canonE, if_neg (by rw [hE]; decide), if_neg hO]
      have hOI : ¬ (32768 : Int) < (fillN xs : Int) := by omega
      have hn3 : xs.length ≤ 320 := by
        unfold lensE at hE
        split at hE
        · cases hE
        · omega
      have hbad : badX xs = false := by
        unfold lensE at hE
        rw [if_neg (by omega)] at hE
        cases h : badX xs
        · rfl
        · rw [h] at hE; simp at hE
      have HCE := Lib.hid hCE
      have HB := Lib.hid hbad
      clear hCE hbad hn
      go_enter Try.func61, Try.ntmps61
      go_wp2_with (fail)
      refine (hfill _ hs hg (by omega)).mono ?_
      rintro e w' ⟨rfl, rfl⟩
      rw [hE, hF]
      clear hE hF hfill
      go_wp2_with (with_reducible refine kit.wpList_alloc rfl 132 rfl (.agg (Array.replicate 17 (.int .i64 0))) zeroA ?_)
      have hr7 : ((W.alloc (Obj.cells (Array.replicate 17 (Value.int .i64 0)) 132)).alloc (Obj.cells (Array.replicate 17 (Value.int .i64 0)) 132)).rowIs (W.heap.size + 1) 132 17 (fun _ => Value.int .i64 0) := by
        have := World.rowIs_alloc (W.alloc (Obj.cells (Array.replicate 17 (Value.int .i64 0)) 132)) (Array.replicate 17 (Value.int .i64 0)) 132 (fun _ => Value.int .i64 0) (fun i hi => by simp at hi; simp [hi])
        simpa using this
      have hr6 : ((W.alloc (Obj.cells (Array.replicate 17 (Value.int .i64 0)) 132)).alloc (Obj.cells (Array.replicate 17 (Value.int .i64 0)) 132)).rowIs W.heap.size 132 17 (fun j => iv (cnt (xs.take 0) j)) := by
        have := World.rowIs_alloc W (Array.replicate 17 (Value.int .i64 0)) 132 (fun _ => Value.int .i64 0) (fun i hi => by simp at hi; simp [hi])
        have h2 : (W.alloc (Obj.cells (Array.replicate 17 (Value.int .i64 0)) 132)).rowIs W.heap.size 132 17 (fun _ => Value.int .i64 0) := by simpa using this
        exact (h2.congr (fun i hi => rfl)).alloc _
      have hb : Below W.heap.size W ((W.alloc (Obj.cells (Array.replicate 17 (Value.int .i64 0)) 132)).alloc (Obj.cells (Array.replicate 17 (Value.int .i64 0)) 132)) := ((Below.refl _ _).alloc (Nat.le_refl _) _).alloc (by simp) _
      generalize (W.alloc (Obj.cells (Array.replicate 17 (Value.int .i64 0)) 132)).alloc (Obj.cells (Array.replicate 17 (Value.int .i64 0)) 132) = wx at hr6 hr7 hb ⊢
      obtain ⟨G, hG⟩ : ∃ G, W.heap.size = G := ⟨_, rfl⟩
      rw [hG] at hr6 hr7 ⊢
      have hGl : W.heap.size ≤ G := by omega
      have HG := Lib.hid hG
      clear hG
      go_loopw [26] (fun y wr => ∃ k : Nat, k ≤ xs.length ∧ y = .int .i64 k ∧ wr.rowIs G 132 17 (fun j => iv (cnt (xs.take k) j)) ∧ wr.rowIs (G + 1) 132 17 (fun _ => .int .i64 0) ∧ Below W.heap.size W wr) (fun y _ => xs.length - (intOf y).toNat)
      case atStart => exact ⟨0, Nat.zero_le _, rfl, hr6, hr7, hb⟩
      case round =>
        clear hr6 hr7 hb
        obtain ⟨k, hk, rfl, hr6, hr7, hb⟩ := hrel
        by_cases hlt : k < xs.length
        · obtain ⟨rfl, hblk⟩ := HQ.out k hlt
          obtain ⟨x, hp⟩ : ∃ p, xs[k]? = some p := ⟨_, List.getElem?_eq_getElem hlt⟩
          have hx := badX_mem HB.out (List.mem_of_getElem? hp)
          obtain ⟨m, rfl⟩ : ∃ m : Nat, x = (m : Int) := ⟨x.toNat, by omega⟩
          have hm15 : m ≤ 15 := by omega
          have hmI : (m : Int) ≤ 15 := by omega
          have hc0 : wr.cell? ⟨b, off + k, none⟩ = some (.int .i64 (m : Int)) := (hb.cell (p := ⟨b, off + k, none⟩) hblk).trans (HC.out k _ hp)
          have hltI : (k : Int) < (xs.length : Int) := by omega
          obtain ⟨cm, hcm⟩ : ∃ cm, cm = cnt (xs.take k) m := ⟨_, rfl⟩
          have hc1 : wr.cell? ⟨G, m, none⟩ = some (.int .i64 (cm : Int)) := by rw [hr6.cell (by omega), hcm]; rfl
          have f1 := hr6.frozen m
          have hcm3 : cm ≤ 320 := by rw [hcm]; have := cnt_le (xs.take k) m; simp at this; omega
          have hr6' := (hr6.set m (.int .i64 ((cm : Int) + 1))).congr (g := fun j => iv (cnt (xs.take (k + 1)) j)) (fun j hj => by
            rw [cnt_next hp j]
            by_cases h : j = m
            · subst h; rw [if_pos rfl, if_pos rfl, hcm]; rfl
            · rw [if_neg h, if_neg (by omega)]; rfl)
          have hr7' := hr7.setOther (a := ⟨G, m, none⟩) (by simp) (.int .i64 ((cm : Int) + 1))
          have hb' := hb.setCell (p := ⟨G, m, none⟩) hGl (.int .i64 ((cm : Int) + 1))
          have HP := Lib.hid hp
          clear hp hcm hr6 hr7 hx
          go_wp2_with (fail)
          exact ⟨⟨k + 1, by omega, rfl, hr6', hr7', hb'⟩, by show xs.length - (((k : Int) + 1).toNat) < xs.length - ((k : Int).toNat); omega⟩
        · have hke : k = xs.length := by omega
          subst hke
          rw [List.take_length] at hr6
          have f0 := hr6.frozen 0
          obtain ⟨c0, hc0⟩ : ∃ c0, c0 = cnt xs 0 := ⟨_, rfl⟩
          have hc1 : wr.cell? ⟨G, 0, none⟩ = some (.int .i64 (c0 : Int)) := by rw [hr6.cell (by omega), hc0]; rfl
          have hr6' := hr6.set 0 (.int .i64 0)
          have hr7' := hr7.setOther (a := ⟨G, 0, none⟩) (by simp) (.int .i64 0)
          have hb' := hb.setCell (p := ⟨G, 0, none⟩) hGl (.int .i64 0)
          clear hr6 hr7 hb hc0
          go_wp2_with (fail)
          generalize wr.setCell ⟨G, 0, none⟩ (.int .i64 0) = w1 at hr6' hr7' hb' ⊢
          clear hc1 f0
          go_loopw [10] (fun y wr => ∃ w : Nat, 1 ≤ w ∧ w ≤ 16 ∧ y = .int .i64 w ∧ wr.rowIs G 132 17 (fun j => if j = 0 then Value.int .i64 0 else iv (cnt xs j)) ∧ wr.rowIs (G + 1) 132 17 (fun j => if j ≤ w then iv (nxt xs j) else .int .i64 0) ∧ Below W.heap.size W wr) (fun y _ => 16 - (intOf y).toNat)
          case atStart =>
            refine ⟨1, by omega, by omega, rfl, hr6', hr7'.congr (fun j hj => ?_), hb'⟩
            by_cases h : j ≤ 1
            · rw [if_pos h]
              match j, h with
              | 0, _ => rfl
              | 1, _ => rfl
            · rw [if_neg h]
          case round =>
            clear hr6' hr7' hb'
            obtain ⟨w, hw1, hw16, rfl, hr6, hr7, hb⟩ := hrel
            by_cases hw : w ≤ 15
            · have hwI : (w : Int) ≤ 15 := by omega
              obtain ⟨c, hc⟩ : ∃ c, c = cnt xs w := ⟨_, rfl⟩
              obtain ⟨n, hn⟩ : ∃ n, n = nxt xs w := ⟨_, rfl⟩
              have c1 : wr.cell? ⟨G, w, none⟩ = some (.int .i64 (c : Int)) := by rw [hr6.cell (by omega), if_neg (by omega), hc]; rfl
              have c2 : wr.cell? ⟨G + 1, w, none⟩ = some (.int .i64 (n : Int)) := by rw [hr7.cell (by omega), if_pos (Nat.le_refl _), hn]; rfl
              have c3 : wr.cell? ⟨G + 1, w + 1, none⟩ = some (.int .i64 0) := by rw [hr7.cell (by omega), if_neg (by omega)]
              have f3 := hr7.frozen (w + 1)
              have hcl : c ≤ 320 := by rw [hc]; have := cnt_le xs w; omega
              have hnl : n ≤ 41943040 := by rw [hn]; exact nxt_bd xs hn3 w hw16
              have hr7' := (hr7.drew.set (w + 1) (.int .i64 (((n : Int) + (c : Int)) * 2))).congr (g := fun j => if j ≤ w + 1 then iv (nxt xs j) else .int .i64 0) (fun j hj => by
                by_cases h : j = w + 1
                · subst h
                  rw [if_pos rfl, if_pos (Nat.le_refl _), nxt_succ xs w hw1, ← hc, ← hn, iv]
                  simp
                · rw [if_neg h]
                  by_cases h2 : j ≤ w
                  · rw [if_pos h2, if_pos (by omega)]
                  · rw [if_neg h2, if_neg (by omega)])
              have hr6' := hr6.drew.setOther (a := ⟨G + 1, w + 1, none⟩) (by simp) (.int .i64 (((n : Int) + (c : Int)) * 2))
              have hb' := hb.drew.setCell (p := ⟨G + 1, w + 1, none⟩) (by simp; omega) (.int .i64 (((n : Int) + (c : Int)) * 2))
              clear hr6 hr7 hc hn
              go_wp2_with (fail)
              go_region
              go_wp2_with (fail)
              exact ⟨⟨w + 1, by omega, by omega, rfl, hr6', hr7', hb'⟩, by show 16 - (((w : Int) + 1).toNat) < 16 - ((w : Int).toNat); omega⟩
            · have hwe : w = 16 := by omega
              subst hwe
              have l6 := hr6.lt
              have l7 := hr7.lt
              have hmk := fun w : World => run_make_row' 22 3 (.int .i64 0) 8 Try.underlying22 infoI rfl .i64 .i64 xs.length (by omega) (by omega) w
              have hr7x := hr7.congr (g := fun j => iv (nx xs 0 j)) (fun j hj => by rw [if_pos (by omega), nx_zero])
              have hsz := hb.size
              clear hr6 hr7
              go_wp2_with (fail)
              have hrow := World.rowIs_made wr (.int .i64 0) xs.length 3
              have hr7y := hr7x.alloc (Obj.cells (madeCells #[Value.int .i64 0] xs.length) 3)
              have hb0 := hb.alloc hsz (Obj.cells (madeCells #[Value.int .i64 0] xs.length) 3)
              generalize wr.alloc (Obj.cells (madeCells #[Value.int .i64 0] xs.length) 3) = w2 at hrow hr7y hb0 ⊢
              obtain ⟨R, hR⟩ : ∃ R, wr.heap.size = R := ⟨_, rfl⟩
              rw [hR] at hrow l6 l7 hsz ⊢
              clear hmk hr7x hb hR
              go_loopw [57] (fun y ws => ∃ i : Nat, i ≤ xs.length ∧ y = .int .i64 i ∧ ws.rowIs (G + 1) 132 17 (fun j => iv (nx xs i j)) ∧ ws.rowIs R 3 xs.length (fun j => if j < i then iv (codeAt xs j) else .int .i64 0) ∧ Below W.heap.size W ws) (fun y _ => xs.length - (intOf y).toNat)
              case atStart => exact ⟨0, Nat.zero_le _, rfl, hr7y, hrow.congr (fun j hj => by rw [if_neg (by omega)]), hb0⟩
              case round =>
                clear hr7y hrow hb0
                obtain ⟨i, hi, rfl, hr7, hro, hb⟩ := hrel
                by_cases hlt : i < xs.length
                · obtain ⟨rfl, hblk⟩ := HQ.out i hlt
                  obtain ⟨x, hp⟩ : ∃ p, xs[i]? = some p := ⟨_, List.getElem?_eq_getElem hlt⟩
                  have hx := badX_mem HB.out (List.mem_of_getElem? hp)
                  obtain ⟨m, rfl⟩ : ∃ m : Nat, x = (m : Int) := ⟨x.toNat, by omega⟩
                  have hm15 : m ≤ 15 := by omega
                  have hmI : (m : Int) ≤ 15 := by omega
                  have hc0 : wr.cell? ⟨b, off + i, none⟩ = some (.int .i64 (m : Int)) := (hb.cell (p := ⟨b, off + i, none⟩) hblk).trans (HC.out i _ hp)
                  have hltI : (i : Int) < (xs.length : Int) := by omega
                  by_cases hm0 : 0 < m
                  · have hm0I : (0 : Int) < (m : Int) := by omega
                    obtain ⟨c, hc⟩ : ∃ c, c = nx xs i m := ⟨_, rfl⟩
                    have c1 : wr.cell? ⟨G + 1, m, none⟩ = some (.int .i64 (c : Int)) := by rw [hr7.cell (by omega), hc]; rfl
                    have c2 : wr.cell? ⟨R, i, none⟩ = some (.int .i64 0) := by rw [hro.cell hlt, if_neg (by omega)]
                    have c1' : (wr.setCell ⟨R, i, none⟩ (.int .i64 (c : Int))).cell? ⟨G + 1, m, none⟩ = some (.int .i64 (c : Int)) := by
                      rw [(hr7.setOther (a := ⟨R, i, none⟩) (by simp; omega) _).cell (by omega), hc]; rfl
                    have f1 := hro.frozen i
                    have f2 := (hr7.setOther (a := ⟨R, i, none⟩) (by simp; omega) (.int .i64 (c : Int))).frozen m
                    have hcl : c ≤ 41943360 := by rw [hc]; exact nx_bd xs hn3 i m (by omega)
                    have hro' := ((hro.set i (.int .i64 (c : Int))).congr (g := fun j => if j < i + 1 then iv (codeAt xs j) else .int .i64 0) (fun j hj => by
                      by_cases h : j = i
                      · subst h; rw [if_pos rfl, if_pos (by omega), code_pos hp hm0, hc]; rfl
                      · rw [if_neg h]
                        by_cases h2 : j < i
                        · rw [if_pos h2, if_pos (by omega)]
                        · rw [if_neg h2, if_neg (by omega)])).setOther (a := ⟨G + 1, m, none⟩) (by simp; omega) (.int .i64 ((c : Int) + 1))
                    have hr7' := ((hr7.setOther (a := ⟨R, i, none⟩) (by simp; omega) (.int .i64 (c : Int))).set m (.int .i64 ((c : Int) + 1))).congr (g := fun j => iv (nx xs (i + 1) j)) (fun j hj => by
                      rw [nx_next hp]
                      by_cases h : j = m
                      · subst h; rw [if_pos rfl, if_pos ⟨rfl, hm0⟩, ← hc]; rfl
                      · rw [if_neg h, if_neg (fun h2 => h h2.1)]; rfl)
                    have hb' := (hb.setCell (p := ⟨R, i, none⟩) (by simp; omega) (.int .i64 (c : Int))).setCell (p := ⟨G + 1, m, none⟩) (by simp; omega) (.int .i64 ((c : Int) + 1))
                    clear hr7 hro hp hc hx
                    go_wp2_with (fail)
                    exact ⟨⟨i + 1, by omega, rfl, hr7', hro', hb'⟩, by show xs.length - (((i : Int) + 1).toNat) < xs.length - ((i : Int).toNat); omega⟩
                  · have hm0' : m = 0 := by omega
                    subst hm0'
                    have hro' := hro.congr (g := fun j => if j < i + 1 then iv (codeAt xs j) else .int .i64 0) (fun j hj => by
                      by_cases h : j = i
                      · subst h; rw [if_neg (by omega), if_pos (by omega), code_zero hp]; rfl
                      · by_cases h2 : j < i
                        · rw [if_pos h2, if_pos (by omega)]
                        · rw [if_neg h2, if_neg (by omega)])
                    have hr7' := hr7.congr (g := fun j => iv (nx xs (i + 1) j)) (fun j hj => by rw [nx_next hp, if_neg (by omega)]; rfl)
                    clear hr7 hro hp hx
                    go_wp2_with (fail)
                    exact ⟨⟨i + 1, by omega, rfl, hr7', hro', hb⟩, by show xs.length - (((i : Int) + 1).toNat) < xs.length - ((i : Int).toNat); omega⟩
                · have hie : i = xs.length := by omega
                  subst hie
                  have hro' := hro.congr (g := fun j => iv (codeAt xs j)) (fun j hj => by rw [if_pos hj])
                  clear hro hr7
                  go_wp2_with (fail)
                  go_ret2
                  exact ⟨.inr ⟨HCE.out, R, rfl, by omega, hro'⟩, hb⟩
  · have hCE : canonE xs = lensE xs := by rw [canonE, if_pos hE]
    have hEI : ((lensE xs : Int) != 0) = true := by simp; omega
    go_enter Try.func61, Try.ntmps61
    go_wp2_with (fail)
    refine (hfill _ hs hg hn).mono ?_
    rintro e w' ⟨rfl, rfl⟩
    go_wp2_with (fail)
    go_ret2
    exact ⟨.inl ⟨by rw [hCE]; exact hE, by rw [hCE]; rfl⟩, Below.refl _ _⟩
end Go.Proofs.Ytppnaofebkpbkaa.lens
