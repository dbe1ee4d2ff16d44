/-
  Several texts in one: Lz, LzLaw, SlIter, LzLong, LzFind, LzCt.
-/
import Derived.Test.YtppnaofebkpbkaaMgA
import Derived.Test.YtppnaofebkpbkaaSlCallV
import Derived.Laws.RangeAny
import Derived.Laws.Runes
import Derived.Scope
import Derived.Test.YtppnaofebkpbkaaSlMapA
import Derived.Test.YtppnaofebkpbkaaTypes
import Derived.Test.YtppnaofebkpbkaaSlStr3
import Derived.Test.YtppnaofebkpbkaaOpen2
/-
  lz.Check and lz.Expand: what they answer, and the walks.
-/
namespace Go.Proofs.Ytppnaofebkpbkaa.lz
open Go.RowKit kit
set_option linter.unusedVariables false

/-- what is wrong with a mark (length, distance, byte) -/
def checkE (m : Int × Int × Int) : Nat :=
  if m.1 = 0 then (if m.2.1 = 0 then 0 else 4) else if m.1 < 3 ∨ 66 < m.1 ∨ m.2.1 < 1 ∨ m.2.2 ≠ 0 then 4 else 0

def mark (m : Int × Int × Int) : Value := .agg #[.int .i64 m.1, .int .i64 m.2.1, .int .u8 m.2.2]
def rowM (m : Int × Int × Int) : List Value := [.int .i64 m.1, .int .i64 m.2.1, .int .u8 m.2.2]
def goodM (m : Int × Int × Int) : Prop := (Lit.int .i64 m.1).wf = true ∧ (Lit.int .i64 m.2.1).wf = true ∧ (Lit.int .u8 m.2.2).wf = true

set_option maxRecDepth 100000 in
theorem check_any (m : Int × Int × Int) (W : World) :
    Calls Try.prog 54 #[mark m] W fun e w' => e = .returned (.int .i64 (checkE m : Int)) ∧ Below W.heap.size W w' := by
  obtain ⟨L, D, B⟩ := m
  unfold mark checkE
  simp only
  go_enter Try.func54, Try.ntmps54
  by_cases h0 : L = 0
  · subst h0
    by_cases hD : D = 0
    · subst hD
      go_wp2_with (fail)
      go_ret
      exact ⟨rfl, (Below.refl _ _).alloc (Nat.le_refl _) _⟩
    · have hDb : (D == 0) = false := by simpa using hD
      go_wp2_with (fail)
      go_ret
      exact ⟨by simp [*], (Below.refl _ _).alloc (Nat.le_refl _) _⟩
  · have hLb : (L == 0) = false := by simpa using h0
    by_cases h1 : L < 3
    · go_wp2_with (fail)
      go_ret
      exact ⟨by simp [*], (Below.refl _ _).alloc (Nat.le_refl _) _⟩
    · by_cases h2 : 66 < L
      · go_wp2_with (fail)
        go_ret
        exact ⟨by simp [*], (Below.refl _ _).alloc (Nat.le_refl _) _⟩
      · by_cases h3 : D < 1
        · go_wp2_with (fail)
          go_ret
          exact ⟨by simp [*], (Below.refl _ _).alloc (Nat.le_refl _) _⟩
        · by_cases h4 : B = 0
          · subst h4
            go_wp2_with (fail)
            go_ret
            exact ⟨by simp [*], (Below.refl _ _).alloc (Nat.le_refl _) _⟩
          · have hBb : (B == 0) = false := by simpa using h4
            go_wp2_with (fail)
            go_ret
            exact ⟨by simp [*], (Below.refl _ _).alloc (Nat.le_refl _) _⟩

/-- 'n' bytes copied from 'd' back -/
def copyF : Nat → Nat → List UInt8 → List UInt8
  | 0, _, out => out
  | n + 1, d, out => copyF n d (out ++ [out.getD (out.length - d) 0])
theorem copyF_len : ∀ (n d : Nat) (out : List UInt8), (copyF n d out).length = out.length + n := by
  intro n
  induction n with
  | zero => intro d out; rfl
  | succ n ih => intro d out; rw [copyF, ih]; simp; omega

def stepE (out : List UInt8) (m : Int × Int × Int) : Nat :=
  if checkE m ≠ 0 then checkE m else if (out.length : Int) < m.2.1 then 8 else if 512 < (out.length : Int) + max 1 m.1 then 2 else 0
def stepO (out : List UInt8) (m : Int × Int × Int) : List UInt8 :=
  copyF m.1.toNat m.2.1.toNat (if m.1 = 0 then out ++ [UInt8.ofNat m.2.2.toNat] else out)
def expF : List (Int × Int × Int) → List UInt8 → List UInt8 × Nat
  | [], out => (out, 0)
  | m :: l, out => if stepE out m = 0 then expF l (stepO out m) else ([], stepE out m)
def expB (l : List (Int × Int × Int)) : List UInt8 × Nat := expF l []


theorem expF_bad {xs : List (Int × Int × Int)} {l : List UInt8} {k e : Nat} {m : Int × Int × Int} (h : expB xs = expF (xs.drop k) l) (hp : xs[k]? = some m) (he : stepE l m = e) (h0 : e ≠ 0) : expB xs = ([], e) := by
  rw [h, List.drop_eq_getElem_cons (List.getElem?_eq_some_iff.1 hp).1, (List.getElem?_eq_some_iff.1 hp).2, expF, if_neg (by rw [he]; exact h0), he]
theorem expF_next {xs : List (Int × Int × Int)} {l : List UInt8} {k : Nat} {m : Int × Int × Int} (h : expB xs = expF (xs.drop k) l) (hp : xs[k]? = some m) (he : stepE l m = 0) : expB xs = expF (xs.drop (k + 1)) (stepO l m) := by
  rw [h, List.drop_eq_getElem_cons (List.getElem?_eq_some_iff.1 hp).1, (List.getElem?_eq_some_iff.1 hp).2, expF, if_pos he]

/-- a block of another type is not the row's own -/
theorem own_type {w : World} {B e n G f : Nat} {v : Value} {xs : List Value} {cs : Array Value} {fr : Nat × Nat} (h : w.ownsRow B e 1 v n xs) (hg : w.heap[G]? = some (.cells cs f fr)) (hne : f ≠ e) : some G ≠ v.ownBlock := by
  rcases h.2 with ⟨rfl, _⟩ | ⟨g, cap, cur, rfl, hb, hgg, _⟩
  · simp [Value.ownBlock]
  · simp only [Value.ownBlock]
    intro e'
    have e2 : G = g := Option.some.inj e'
    subst e2
    rw [hg] at hgg
    simp at hgg
    exact hne hgg.2.1
theorem own_byte {w : World} {B e n : Nat} {v : Value} {l : List UInt8} (h : w.ownsRow B e 1 v n (byteCells l)) {j : Nat} (hj : j < l.length) : ∃ g cap, v = .slice (some ⟨g, 0, none⟩) n cap ∧ w.cell? ⟨g, j, none⟩ = some (.int .u8 (l[j].toNat : Int)) := by
  rcases h.2 with ⟨rfl, h0⟩ | ⟨g, cap, cur, rfl, _⟩
  · have := h.1; simp [byteCells] at this; omega
  · refine ⟨g, cap, rfl, ?_⟩
    have := h.cells (g := g) rfl j (.int .u8 (l[j].toNat : Int)) (by simp [byteCells, hj])
    have ea : (⟨g, 0, none⟩ : Addr).add j = ⟨g, j, none⟩ := by unfold Addr.add; split <;> simp_all
    rwa [ea] at this

theorem checkE_two (m : Int × Int × Int) : checkE m = 4 ∨ checkE m = 0 ∧ (m.1 = 0 ∧ m.2.1 = 0 ∨ 3 ≤ m.1 ∧ m.1 ≤ 66 ∧ 1 ≤ m.2.1 ∧ m.2.2 = 0) := by
  unfold checkE
  split
  · split
    · exact .inr ⟨rfl, .inl ⟨by assumption, by assumption⟩⟩
    · exact .inl rfl
  · split
    · exact .inl rfl
    · exact .inr ⟨rfl, .inr (by omega)⟩

attribute [local go_sem] kit.ite_max
set_option maxHeartbeats 1000000 in
set_option maxRecDepth 100000 in
theorem expand_any (v : Value) (xs : List (Int × Int × Int)) (W : World) (hs : SliceAt W 3 v (xs.map rowM)) (hg : ∀ p ∈ xs, goodM p) (hn : xs.length ≤ 100000000000000000) :
    Calls Try.prog 31 #[v] W fun e w' => e = .returned (.tuple #[.string ⟨(expB xs).1.toArray⟩, .int .i64 ((expB xs).2 : Int)]) ∧ Below W.heap.size W w' := by
  obtain ⟨q, cap, b, off, rfl, hq, hc⟩ := hs.view
  simp only [List.length_map] at hq ⊢
  have HQ := Lib.hid hq
  have HC : Hid (∀ k p, xs[k]? = some p → W.cell? ⟨b, off + k * 3, none⟩ = some (.int .i64 p.1) ∧ W.cell? ⟨b, off + k * 3 + 1, none⟩ = some (.int .i64 p.2.1) ∧ W.cell? ⟨b, off + k * 3 + 2, none⟩ = some (.int .u8 p.2.2)) := fun k p hx => by
    have h := hc k (rowM p) (by rw [List.getElem?_map, hx]; rfl)
    exact ⟨h 0 _ rfl, h 1 _ rfl, h 2 _ rfl⟩
  clear hs hq hc
  go_enter Try.func31, Try.ntmps31
  go_wp2_with (fail)
  go_loopw [4, 10] (fun o y wr => ∃ (k : Nat) (l : List UInt8), k ≤ xs.length ∧ y = .int .i64 k ∧ wr.ownsRow W.heap.size 5 1 o l.length (byteCells l) ∧ l.length ≤ 512 ∧ Hid (expB xs = expF (xs.drop k) l) ∧ Below W.heap.size W wr) (fun _ y _ => xs.length - (intOf y).toNat)
  case atStart => exact ⟨0, [], Nat.zero_le _, rfl, World.ownsRow_nil _ _ _ _, by simp, rfl, Below.refl _ _⟩
  case round =>
    obtain ⟨k, l, hk, rfl, hown, hl, hexp, hb⟩ := hrel
    by_cases hlt : k < xs.length
    · obtain ⟨rfl, hblk⟩ := HQ.out k hlt
      obtain ⟨⟨L, D, B⟩, hp⟩ : ∃ p, xs[k]? = some p := ⟨_, List.getElem?_eq_getElem hlt⟩
      have hc := HC.out k _ hp
      have hc0 : wr.cell? ⟨b, off + k * 3, none⟩ = some (.int .i64 L) := (hb.cell (p := ⟨b, off + k * 3, none⟩) hblk).trans hc.1
      have hc1 : wr.cell? ⟨b, off + k * 3 + 1, none⟩ = some (.int .i64 D) := (hb.cell (p := ⟨b, off + k * 3 + 1, none⟩) hblk).trans hc.2.1
      have hc2 : wr.cell? ⟨b, off + k * 3 + 2, none⟩ = some (.int .u8 B) := (hb.cell (p := ⟨b, off + k * 3 + 2, none⟩) hblk).trans hc.2.2
      have hltI : (k : Int) < (xs.length : Int) := by omega
      have hw := hg _ (List.mem_of_getElem? hp)
      have hL := i64_bd hw.1
      have hD := i64_bd hw.2.1
      obtain ⟨B, rfl, hB⟩ := u8_nat hw.2.2
      have HP := Lib.hid hp
      have hsz : W.heap.size ≤ wr.heap.size := hb.size
      clear hc hp hw
      go_wp2_with (fail)
      refine (check_any (L, D, (B : Int)) _).mono ?_
      rintro e W1 ⟨rfl, hb1⟩
      have hbox : W1.heap[wr.heap.size]? = some (.cells #[.int .i64 L, .int .i64 D, .int .u8 (B : Int)] 70 (0, 0)) := (hb1.block _ (by simp)).trans (heap_alloc_new _ _)
      have hown1 := ownsRow_below (hown.alloc _) hb1
      have hbb := (hb.alloc hsz (Obj.cells #[.int .i64 L, .int .i64 D, .int .u8 (B : Int)] 70)).trans (hb1.mono (Nat.le_trans hsz (by simp)))
      clear hown hb hb1 hc0 hc1 hc2
      rcases checkE_two (L, D, (B : Int)) with he | ⟨he, hform⟩
      · have HE := Lib.hid (expF_bad hexp.out HP.out (e := 4) (by rw [stepE, he]; rfl) (by decide))
        rw [he]
        go_wp2_with (fail)
        go_ret2
        exact ⟨by rw [HE.out]; rfl, hbb⟩
      · have HE0 : Hid (∀ e, (if (l.length : Int) < D then 8 else if 512 < (l.length : Int) + max 1 L then 2 else 0) = e → stepE l (L, D, (B : Int)) = e) := fun e h => by rw [stepE, he]; exact h
        rw [he]
        have HG := Lib.hid hbox
        have g0 : W1.cell? ⟨wr.heap.size, 0, none⟩ = some (.int .i64 L) := by rw [cell_of_row _ _ _ _ _ _ hbox]; rfl
        have g1 : W1.cell? ⟨wr.heap.size, 1, none⟩ = some (.int .i64 D) := by rw [cell_of_row _ _ _ _ _ _ hbox]; rfl
        have g2 : W1.cell? ⟨wr.heap.size, 2, none⟩ = some (.int .u8 (B : Int)) := by rw [cell_of_row _ _ _ _ _ _ hbox]; rfl
        clear hbox he
        generalize wr.heap.size = G at HG g0 g1 g2 hsz ⊢
        obtain ⟨q, ca, rfl⟩ : ∃ q ca, u4 = .slice q l.length ca := by
          rcases hown1.2 with ⟨rfl, h0⟩ | ⟨g, cap, cur, rfl, _⟩
          · rw [h0]; exact ⟨_, _, rfl⟩
          · exact ⟨_, _, rfl⟩
        rcases hform with ⟨h0, hd0⟩ | ⟨h3, h66, hd1, hb0⟩
        · simp only at h0 hd0
          subst h0 hd0
          by_cases hbig : (512 : Int) < (l.length : Int) + 1
          · have HE := Lib.hid (expF_bad hexp.out HP.out (HE0.out 2 (by rw [if_neg (by omega), if_pos (by omega)])) (by decide))
            clear HE0
            go_wp2_with (fail)
            go_ret2
            exact ⟨by rw [HE.out]; rfl, hbb⟩
          · have HN := Lib.hid (expF_next hexp.out HP.out (HE0.out 0 (by rw [if_neg (by omega), if_neg (by omega)])))
            have hsz1 := hbb.size
            have hne := own_type hown1 HG.out (by decide)
            have hlt2 := (Array.getElem?_eq_some_iff.1 HG.out).1
            clear HE0
            go_wp2_with (at_builtin; refine app1 put.tBytes rfl (.tmp 34) (.tmp 37) rfl _ _ l.length (byteCells l) rfl rfl hown1 rfl ?c3 ?c4 hbb hsz1 ?_)
            case c3 => omega
            case c4 => unfold maxLen; omega
            intro v' W2 hown2 hgr hb2 hsz2
            have g0' : W2.cell? ⟨G, 0, none⟩ = some (.int .i64 0) := hgr.cell g0 hne
            have hv : (B : Int) = ((UInt8.ofNat B).toNat : Int) := by simp; omega
            rw [byteCells_snoc l (UInt8.ofNat B) _ hv] at hown2
            have HN2 : Hid (expB xs = expF (xs.drop (k + 1)) (l ++ [UInt8.ofNat B])) := HN.out
            have hl2 : (l ++ [UInt8.ofNat B]).length ≤ 512 := by simp; omega
            rw [show l.length + 1 = (l ++ [UInt8.ofNat B]).length from by simp] at hown2
            generalize l ++ [UInt8.ofNat B] = l2 at hown2 HN2 hl2
            clear hown1 hgr g0 g1 g2 HN hv hne hexp HP HG
            go_wp2_with (fail)
            go_loopw [4, 41] (fun o y wx => o = v' ∧ y = .int .i64 0 ∧ W2 = wx) (fun _ _ _ => 0)
            case atStart => exact ⟨rfl, rfl, rfl⟩
            case round =>
              obtain ⟨rfl, rfl, rfl⟩ := hrel
              go_wp2_with (fail)
              exact ⟨⟨k + 1, l2, by omega, rfl, hown2, hl2, HN2, hb2⟩, by show xs.length - (((k : Int) + 1).toNat) < xs.length - ((k : Int).toNat); omega⟩
        · simp only at h3 h66 hd1 hb0
          obtain ⟨n, rfl⟩ : ∃ n : Nat, L = (n : Int) := ⟨L.toNat, by omega⟩
          obtain ⟨d, rfl⟩ : ∃ d : Nat, D = (d : Int) := ⟨D.toNat, by omega⟩
          by_cases hdl : (l.length : Int) < (d : Int)
          · have HE := Lib.hid (expF_bad hexp.out HP.out (HE0.out 8 (by rw [if_pos hdl])) (by decide))
            clear HE0
            go_wp2_with (fail)
            go_ret2
            exact ⟨by rw [HE.out]; rfl, hbb⟩
          · by_cases hbig : (512 : Int) < (l.length : Int) + (n : Int)
            · have HE := Lib.hid (expF_bad hexp.out HP.out (HE0.out 2 (by rw [if_neg hdl, if_pos (by omega)])) (by decide))
              clear HE0
              have hmax : max (1 : Int) (n : Int) = (n : Int) := by omega
              go_wp2_with (fail)
              go_ret2
              exact ⟨by rw [HE.out]; rfl, hbb⟩
            · have HN := Lib.hid (expF_next hexp.out HP.out (HE0.out 0 (by rw [if_neg hdl, if_neg (by omega)])))
              have hso : stepO l ((n : Int), (d : Int), (B : Int)) = copyF n d l := by
                unfold stepO
                rw [if_neg (by simp only; omega)]
                rfl
              rw [hso] at HN
              clear HE0 hexp HP hso
              have hmax : max (1 : Int) (n : Int) = (n : Int) := by omega
              have hn0 : ((n : Int) == 0) = false := by simp; omega
              have hd1' : decide (l.length < d) = false := decide_eq_false (by omega)
              have hd2' : decide ((512 : Int) < (l.length : Int) + (n : Int)) = false := decide_eq_false hbig
              have hsz1 := hbb.size
              go_wp2_with (fail)
              go_loopw [4, 41] (fun o y wx => ∃ (j : Nat) (l2 : List UInt8), j ≤ n ∧ y = .int .i64 j ∧ wx.ownsRow W.heap.size 5 1 o l2.length (byteCells l2) ∧ l2.length = l.length + j ∧ Hid (copyF (n - j) d l2 = copyF n d l) ∧ Hid (wx.heap[G]? = some (.cells #[.int .i64 (n : Int), .int .i64 (d : Int), .int .u8 (B : Int)] 70 (0, 0))) ∧ Below W.heap.size W wx) (fun _ y _ => n - (intOf y).toNat)
              case atStart => exact ⟨0, l, Nat.zero_le _, rfl, hown1, rfl, rfl, HG, hbb⟩
              case round =>
                obtain ⟨j, l2, hj, rfl, hown2, hl2, hcp, HG2, hb2⟩ := hrel
                by_cases hjn : j < n
                · have hjI : (j : Int) < (n : Int) := by omega
                  have g1' : wr.cell? ⟨G, 1, none⟩ = some (.int .i64 (d : Int)) := by rw [cell_of_row _ _ _ _ _ _ HG2.out]; rfl
                  obtain ⟨i, hi⟩ : ∃ i, i = l2.length - d := ⟨_, rfl⟩
                  obtain ⟨g, cap2, rfl, hcl⟩ := own_byte hown2 (j := i) (by omega)
                  have hx : (l2.length : Int) - (d : Int) = (i : Int) := by omega
                  have hil : (i : Int) < (l2.length : Int) := by omega
                  have hne := own_type hown2 HG2.out (by decide)
                  have hcp2 : Hid (copyF (n - (j + 1)) d (l2 ++ [l2[i]'(by omega)]) = copyF n d l) := by
                    have h := hcp.out
                    rw [show n - j = (n - (j + 1)) + 1 from by omega, copyF, ← hi] at h
                    rw [List.getD_eq_getElem?_getD, List.getElem?_eq_getElem (by omega)] at h
                    exact h
                  have HI := Lib.hid hi
                  have hl512 : l2.length < 512 := by omega
                  generalize l2[i]'(by omega) = c at hcp2 hcl
                  have hsz2 := hb2.size
                  have HL2 := Lib.hid hl2
                  clear hcp hi hl2
                  go_wp2_with (at_builtin; refine app1 put.tBytes rfl (.tmp 43) (.tmp 52) rfl _ _ l2.length (byteCells l2) rfl rfl hown2 rfl ?c3 ?c4 hb2 hsz2 ?_)
                  case c3 => omega
                  case c4 => unfold maxLen; omega
                  intro v' W2 hown3 hgr hb3 _
                  have HG3 := Lib.hid ((hgr.block G (Array.getElem?_eq_some_iff.1 HG2.out).1 hne).trans HG2.out)
                  rw [byteCells_snoc l2 c _ rfl, show l2.length + 1 = (l2 ++ [c]).length from by simp] at hown3
                  have hl3 : (l2 ++ [c]).length = l.length + (j + 1) := by simp; have := HL2.out; omega
                  generalize l2 ++ [c] = l3 at hown3 hl3 hcp2
                  clear hown2 hgr hne
                  go_wp2_with (fail)
                  go_round
                  case rel => exact ⟨j + 1, l3, by omega, rfl, hown3, hl3, hcp2, HG3, hb3⟩
                  case measure => show n - (((j : Int) + 1).toNat) < n - ((j : Int).toNat); omega
                · have hje : j = n := by omega
                  subst hje
                  rw [Nat.sub_self] at hcp
                  have hcp2 : l2 = copyF j d l := hcp.out
                  rw [← hcp2] at HN
                  clear hcp hcp2
                  go_wp2_with (fail)
                  exact ⟨⟨k + 1, l2, by omega, rfl, hown2, by omega, HN, hb2⟩, by show xs.length - (((k : Int) + 1).toNat) < xs.length - ((k : Int).toNat); omega⟩
    · have hke : k = xs.length := by omega
      subst hke
      have hE : expB xs = (l, 0) := by rw [hexp.out, List.drop_length]; rfl
      have HE := Lib.hid hE
      clear hE
      have hst := string_of_own (src := 36) (dst := 9) Try.underlying36 Try.underlying5 Try.underlying9 hown
      go_wp2_with (fail)
      go_ret2
      exact ⟨by rw [HE.out]; rfl, hb⟩
end Go.Proofs.Ytppnaofebkpbkaa.lz
/-
  lz: the plain law of the fewest marks. No program in sight.
-/
namespace Go.Proofs.Ytppnaofebkpbkaa.lz
open Go.RowKit kit
set_option linter.unusedVariables false

theorem u8_wf (x : UInt8) : (Lit.int .u8 (x.toNat : Int)).wf = true := by
  have := UInt8.toNat_lt x
  simp [Lit.wf, IntKind.min, IntKind.max, IntKind.signed, IntKind.bits]
  omega
/-- n bytes from k on are the n bytes from i on -/
def mat (s : List UInt8) (k i n : Nat) : Prop := ∀ t, t < n → s[k + t]? = s[i + t]?
/-- the longest copy that may be made at i has n bytes (none: 0); one begins d back -/
def LongAt (s : List UInt8) (i n d : Nat) : Prop :=
  (n = 0 ∨ (3 ≤ n ∧ n ≤ 66 ∧ i + n ≤ s.length ∧ 1 ≤ d ∧ d ≤ i ∧ mat s (i - d) i n)) ∧ ∀ k m, k < i → 3 ≤ m → m ≤ 66 → i + m ≤ s.length → mat s k i m → m ≤ n
def LongAll (s : List UInt8) (L D : Nat → Nat) : Prop := ∀ i, i < s.length → LongAt s i (L i) (D i)
/-- from j on: the fewest marks, and the first step of them -/
def Dp (s : List UInt8) (L B S : Nat → Nat) (j : Nat) : Prop :=
  B s.length = 0 ∧ ∀ i, j ≤ i → i < s.length → (S i = 1 ∨ 3 ≤ S i ∧ S i ≤ L i) ∧ B i = B (i + S i) + 1 ∧ B i ≤ B (i + 1) + 1 ∧ (∀ n, 3 ≤ n → n ≤ L i → B i ≤ B (i + n) + 1) ∧ B i + i ≤ s.length

theorem copyF_pre : ∀ (n d : Nat) (out : List UInt8), out <+: copyF n d out := by
  intro n
  induction n with
  | zero => intro d out; exact List.prefix_refl _
  | succ n ih => intro d out; rw [copyF]; exact List.IsPrefix.trans (List.prefix_append _ _) (ih d _)
theorem stepO_pre (out : List UInt8) (m : Int × Int × Int) : out <+: stepO out m := by
  unfold stepO
  split
  · exact List.IsPrefix.trans (List.prefix_append _ _) (copyF_pre _ _ _)
  · exact copyF_pre _ _ _
theorem expF_pre : ∀ (l : List (Int × Int × Int)) (out : List UInt8), (expF l out).2 ≠ 0 ∧ (expF l out).1 = [] ∨ (expF l out).2 = 0 ∧ out <+: (expF l out).1 := by
  intro l
  induction l with
  | nil => intro out; exact .inr ⟨rfl, List.prefix_refl _⟩
  | cons m l ih =>
    intro out
    rw [expF]
    split
    · rcases ih (stepO out m) with h | h
      · exact .inl h
      · exact .inr ⟨h.1, List.IsPrefix.trans (stepO_pre out m) h.2⟩
    · rename_i h; exact .inl ⟨h, rfl⟩
theorem expF_app : ∀ (l r : List (Int × Int × Int)) (out x : List UInt8), expF l out = (x, 0) → expF (l ++ r) out = expF r x := by
  intro l
  induction l with
  | nil => intro r out x h; rw [expF] at h; cases h; rfl
  | cons m l ih =>
    intro r out x h
    rw [expF] at h
    rw [List.cons_append, expF]
    split at h
    · rename_i h0; rw [if_pos h0]; exact ih r _ x h
    · rename_i h0; exact absurd (congrArg Prod.snd h) h0
/-- a copy says the same as what it is of -/
theorem copyF_take (s : List UInt8) : ∀ (n d i : Nat), 1 ≤ d → d ≤ i → i + n ≤ s.length → mat s (i - d) i n → copyF n d (s.take i) = s.take (i + n) := by
  intro n
  induction n with
  | zero => intro d i _ _ _ _; rfl
  | succ n ih =>
    intro d i h1 h2 h3 hm
    have hl : (s.take i).length = i := by rw [List.length_take]; omega
    have h0 := hm 0 (by omega)
    simp only [Nat.add_zero] at h0
    have e : s.take i ++ [(s.take i).getD (i - d) 0] = s.take (i + 1) := by
      have hlt : i < s.length := by omega
      rw [List.take_add_one, List.getD_eq_getElem?_getD, List.getElem?_take, if_pos (by omega), h0, List.getElem?_eq_getElem hlt]
      rfl
    rw [copyF, hl, e, ih d (i + 1) h1 (by omega) (by omega) ?_, show i + 1 + n = i + (n + 1) by omega]
    intro t ht
    have := hm (t + 1) (by omega)
    rw [show i + 1 - d + t = i - d + (t + 1) by omega, show i + 1 + t = i + (t + 1) by omega]
    exact this
/-- ..and the other way -/
theorem copyF_mat : ∀ (n d : Nat) (out : List UInt8), 1 ≤ d → d ≤ out.length → mat (copyF n d out) (out.length - d) out.length n := by
  intro n
  induction n with
  | zero => intro d out _ _ t ht; omega
  | succ n ih =>
    intro d out h1 h2 t ht
    have hlen : (out ++ [out.getD (out.length - d) 0]).length = out.length + 1 := by simp
    rw [copyF]
    have hp := copyF_pre n d (out ++ [out.getD (out.length - d) 0])
    obtain ⟨r, hr⟩ := hp
    cases t with
    | zero =>
      rw [← hr]
      simp only [Nat.add_zero]
      rw [List.getElem?_append_left (by omega), List.getElem?_append_left (by omega), List.getElem?_append_left (by omega), List.getElem?_append_right (Nat.le_refl _), Nat.sub_self, List.getD_eq_getElem?_getD, List.getElem?_eq_getElem (show out.length - d < out.length by omega)]
      rfl
    | succ t =>
      have := ih d (out ++ [out.getD (out.length - d) 0]) h1 (by omega) t (by omega)
      rw [hlen] at this
      rw [show out.length - d + (t + 1) = out.length + 1 - d + t by omega, show out.length + (t + 1) = out.length + 1 + t by omega]
      exact this
theorem pre_take {a s : List UInt8} (h : a <+: s) : a = s.take a.length := by
  obtain ⟨r, rfl⟩ := h
  simp
/-- the first mark of those that say s -/
theorem exp_first {s : List UInt8} {m : Int × Int × Int} {l : List (Int × Int × Int)} {p : Nat} (hp : p ≤ s.length) (h : expF (m :: l) (s.take p) = (s, 0)) (hg : goodM m) :
    (∃ x, s[p]? = some x ∧ m = (0, 0, (x.toNat : Int)) ∧ expF l (s.take (p + 1)) = (s, 0)) ∨
    ∃ n d : Nat, 3 ≤ n ∧ n ≤ 66 ∧ 1 ≤ d ∧ d ≤ p ∧ p + n ≤ s.length ∧ m = ((n : Int), (d : Int), 0) ∧ mat s (p - d) p n ∧ expF l (s.take (p + n)) = (s, 0) := by
  rw [expF] at h
  split at h
  · rename_i h0
    have hl : (s.take p).length = p := by rw [List.length_take]; omega
    have hpre : stepO (s.take p) m <+: s := by
      rcases expF_pre l (stepO (s.take p) m) with h2 | h2
      · rw [h] at h2; exact absurd rfl h2.1
      · rw [h] at h2; exact h2.2
    have hle := List.IsPrefix.length_le hpre
    have htk := pre_take hpre
    have hc : checkE m = 0 := by
      unfold stepE at h0
      split at h0
      · rename_i h9; exact absurd h0 h9
      · rename_i h9; exact Decidable.not_not.1 h9
    have hd : ¬ ((s.take p).length : Int) < m.2.1 := by
      unfold stepE at h0
      rw [if_neg (by rw [hc]; exact fun h => h rfl)] at h0
      split at h0
      · cases h0
      · assumption
    rcases checkE_two m with h2 | ⟨_, h2⟩
    · rw [hc] at h2; cases h2
    · obtain ⟨a, b, c⟩ := m
      rcases h2 with ⟨h3, h4⟩ | ⟨h3, h4, h5, h6⟩
      · left
        dsimp only at h3 h4
        subst h3; subst h4
        have hst : stepO (s.take p) ((0 : Int), (0 : Int), c) = s.take p ++ [UInt8.ofNat c.toNat] := by unfold stepO; rfl
        rw [hst] at h htk hle
        rw [List.length_append, List.length_singleton, hl] at htk hle
        have hlt : p < s.length := by omega
        refine ⟨s[p], List.getElem?_eq_getElem hlt, ?_, by rw [← htk]; exact h⟩
        have hx : UInt8.ofNat c.toNat = s[p] := by
          have e : (s.take p ++ [UInt8.ofNat c.toNat])[p]? = (s.take (p + 1))[p]? := by rw [htk]
          rw [List.getElem?_append_right (by omega), hl, Nat.sub_self, List.getElem?_take, if_pos (by omega), List.getElem?_eq_getElem hlt] at e
          simpa using e
        have hw := hg.2.2
        obtain ⟨n, rfl, hn⟩ := u8_nat hw
        rw [← hx]
        simp
        omega
      · right
        dsimp only at h3 h4 h5 h6 hd
        subst h6
        obtain ⟨n, rfl⟩ := Int.eq_ofNat_of_zero_le (by omega : 0 ≤ a)
        obtain ⟨d, rfl⟩ := Int.eq_ofNat_of_zero_le (by omega : 0 ≤ b)
        rw [hl] at hd
        have hst : stepO (s.take p) ((n : Int), (d : Int), (0 : Int)) = copyF n d (s.take p) := by
          unfold stepO
          rw [if_neg (by dsimp only; omega)]
          rfl
        rw [hst] at h htk hle
        rw [copyF_len, hl] at htk hle
        have hm := copyF_mat n d (s.take p) (by omega) (by omega)
        rw [hl, htk] at hm
        refine ⟨n, d, by omega, by omega, by omega, by omega, by omega, rfl, ?_, by rw [← htk]; exact h⟩
        intro t ht
        have := hm t ht
        rwa [List.getElem?_take, List.getElem?_take, if_pos (by omega), if_pos (by omega)] at this
  · rename_i h0
    exact absurd (congrArg Prod.snd h) h0
theorem exp_nil {s : List UInt8} {p : Nat} (hp : p ≤ s.length) (h : expF [] (s.take p) = (s, 0)) : p = s.length := by
  rw [expF] at h
  have := congrArg (fun x => x.1.length) h
  simp at this
  omega
/-- no marks are fewer -/
theorem least {s : List UInt8} {L D B S : Nat → Nat} (hL : LongAll s L D) (hB : Dp s L B S 0) : ∀ (l : List (Int × Int × Int)) (p : Nat), p ≤ s.length → (∀ m ∈ l, goodM m) → expF l (s.take p) = (s, 0) → B p ≤ l.length := by
  intro l
  induction l with
  | nil =>
    intro p hp _ h
    rw [exp_nil hp h, hB.1]
    exact Nat.zero_le _
  | cons m l ih =>
    intro p hp hg h
    rcases exp_first hp h (hg m List.mem_cons_self) with ⟨x, h1, h2, h3⟩ | ⟨n, d, h1, h2, h3, h4, h5, h6, h7, h8⟩
    · have hlt : p < s.length := (List.getElem?_eq_some_iff.1 h1).1
      have := ih (p + 1) hlt (fun m hm => hg m (List.mem_cons_of_mem _ hm)) h3
      have hb := (hB.2 p (Nat.zero_le _) hlt).2.2.1
      rw [List.length_cons]; omega
    · have := ih (p + n) h5 (fun m hm => hg m (List.mem_cons_of_mem _ hm)) h8
      have hb := (hB.2 p (Nat.zero_le _) (by omega)).2.2.2.1 n h1 ((hL p (by omega)).2 (p - d) n (by omega) h1 h2 h5 h7)
      rw [List.length_cons]; omega
/-- the mark at i -/
def markF (s : List UInt8) (S D : Nat → Nat) (i : Nat) : Int × Int × Int := if S i = 1 then (0, 0, ((s.getD i 0).toNat : Int)) else ((S i : Int), (D i : Int), 0)
theorem mark_step {s : List UInt8} {L D B S : Nat → Nat} {i : Nat} {out : List (Int × Int × Int)} (hs : s.length ≤ 512) (hL : LongAll s L D) (hB : Dp s L B S 0) (hi : i < s.length) (ho : expB out = (s.take i, 0)) :
    i + S i ≤ s.length ∧ 1 ≤ S i ∧ expB (out ++ [markF s S D i]) = (s.take (i + S i), 0) ∧ goodM (markF s S D i) := by
  obtain ⟨h1, h2, h3, h4, h5⟩ := hB.2 i (Nat.zero_le _) hi
  have hl : (s.take i).length = i := by rw [List.length_take]; omega
  have ha : expB (out ++ [markF s S D i]) = expF [markF s S D i] (s.take i) := expF_app _ _ _ _ ho
  rw [ha, expF]
  rcases h1 with h1 | ⟨h1, h6⟩
  · have hm : markF s S D i = (0, 0, ((s.getD i 0).toNat : Int)) := by unfold markF; rw [if_pos h1]
    have hx : s.getD i 0 = s[i] := by rw [List.getD_eq_getElem?_getD, List.getElem?_eq_getElem hi]; rfl
    rw [hm, h1]
    have hst : stepE (s.take i) ((0 : Int), (0 : Int), ((s.getD i 0).toNat : Int)) = 0 := by
      unfold stepE
      rw [if_neg (fun h => h rfl), hl, if_neg (by dsimp only; omega), if_neg (by show ¬ 512 < (i : Int) + max 1 0; omega)]
    rw [if_pos hst]
    refine ⟨by omega, Nat.le_refl _, ?_, ?_⟩
    · show (stepO _ _, 0) = _
      have : stepO (s.take i) ((0 : Int), (0 : Int), ((s.getD i 0).toNat : Int)) = s.take i ++ [UInt8.ofNat ((s.getD i 0).toNat : Int).toNat] := by unfold stepO; rfl
      rw [this, hx, List.take_add_one, List.getElem?_eq_getElem hi]
      simp
    · exact ⟨rfl, rfl, u8_wf _⟩
  · have hlong := (hL i hi).1
    have hne : L i ≠ 0 := by omega
    rcases hlong with h7 | ⟨g1, g2, g3, g4, g5, g6⟩
    · exact absurd h7 hne
    · have hm : markF s S D i = ((S i : Int), (D i : Int), 0) := by unfold markF; rw [if_neg (by omega)]
      rw [hm]
      have hst : stepE (s.take i) ((S i : Int), (D i : Int), (0 : Int)) = 0 := by
        have hc : checkE ((S i : Int), (D i : Int), (0 : Int)) = 0 := by
          unfold checkE
          rw [if_neg (by dsimp only; omega), if_neg (by dsimp only; omega)]
        unfold stepE
        rw [if_neg (by rw [hc]; exact fun h => h rfl), hl, if_neg (by dsimp only; omega), if_neg (by dsimp only; omega)]
      rw [if_pos hst]
      refine ⟨by omega, by omega, ?_, ?_⟩
      · show (stepO _ _, 0) = _
        have : stepO (s.take i) ((S i : Int), (D i : Int), (0 : Int)) = copyF (S i) (D i) (s.take i) := by
          unfold stepO
          rw [if_neg (by dsimp only; omega)]
          rfl
        rw [this, copyF_take s (S i) (D i) i g4 g5 (by omega) (fun t ht => g6 t (by omega))]
      · have : D i ≤ 512 := by omega
        have : S i ≤ 66 := by omega
        refine ⟨?_, ?_, rfl⟩ <;> simp [Lit.wf, IntKind.min, IntKind.max, IntKind.signed, IntKind.bits] <;> omega
/-- what Find answers -/
def Found (s : List UInt8) (out : List (Int × Int × Int)) : Prop := expB out = (s, 0) ∧ (∀ m ∈ out, goodM m) ∧ out.length ≤ 512 ∧ ∀ l, (∀ m ∈ l, goodM m) → expB l = (s, 0) → out.length ≤ l.length
/-- on the way: before place i -/
def Way (s : List UInt8) (B : Nat → Nat) (i : Nat) (out : List (Int × Int × Int)) : Prop := i ≤ s.length ∧ expB out = (s.take i, 0) ∧ (∀ m ∈ out, goodM m) ∧ out.length + B i = B 0
theorem way_nil (s : List UInt8) (B : Nat → Nat) : Way s B 0 [] := ⟨Nat.zero_le _, rfl, fun m h => absurd h List.not_mem_nil, by simp⟩
theorem way_next {s : List UInt8} {L D B S : Nat → Nat} {i : Nat} {out : List (Int × Int × Int)} (hs : s.length ≤ 512) (hL : LongAll s L D) (hB : Dp s L B S 0) (hi : i < s.length) (h : Way s B i out) : Way s B (i + S i) (out ++ [markF s S D i]) := by
  obtain ⟨h1, h2, h3, h4⟩ := h
  obtain ⟨g1, g2, g3, g4⟩ := mark_step hs hL hB hi h2
  refine ⟨g1, g3, fun m hm => ?_, ?_⟩
  · rcases List.mem_append.1 hm with hm | hm
    · exact h3 m hm
    · rw [List.mem_singleton.1 hm]; exact g4
  · have := (hB.2 i (Nat.zero_le _) hi).2.1
    rw [List.length_append, List.length_singleton]; omega
theorem way_end {s : List UInt8} {L D B S : Nat → Nat} {out : List (Int × Int × Int)} (hs : s.length ≤ 512) (hL : LongAll s L D) (hB : Dp s L B S 0) (h : Way s B s.length out) : Found s out := by
  obtain ⟨h1, h2, h3, h4⟩ := h
  rw [hB.1] at h4
  rw [List.take_length] at h2
  have hb0 : B 0 ≤ s.length := by
    rcases Nat.eq_zero_or_pos s.length with h | h
    · have := hB.1; rw [h] at this; omega
    · have := (hB.2 0 (Nat.zero_le _) h).2.2.2.2; omega
  exact ⟨h2, h3, by omega, fun l hg hl => by have := least hL hB l 0 (Nat.zero_le _) hg hl; omega⟩
/-! ### two texts -/
theorem found_abc {out : List (Int × Int × Int)} (h : Found [97, 98, 99, 97, 98, 99, 97, 98, 99] out) : out = [(0, 0, 97), (0, 0, 98), (0, 0, 99), (6, 3, 0)] := by
  obtain ⟨h1, h2, _, h4⟩ := h
  have hlen := h4 [(0, 0, 97), (0, 0, 98), (0, 0, 99), (6, 3, 0)] (by simp only [List.mem_cons, List.not_mem_nil, or_false]; rintro m (rfl | rfl | rfl | rfl) <;> exact ⟨by decide, by decide, by decide⟩) (by decide)
  clear h4
  have h1' : expF out (List.take 0 [97, 98, 99, 97, 98, 99, 97, 98, 99]) = ([97, 98, 99, 97, 98, 99, 97, 98, 99], 0) := h1
  cases out with
  | nil => exact absurd (exp_nil (s := _) (p := 0) (by decide) h1') (by decide)
  | cons m0 out =>
    rcases exp_first (by decide) h1' (h2 _ (by simp)) with ⟨x, e1, rfl, k0⟩ | ⟨n, d, a1, a2, a3, a4, _⟩
    rotate_left
    · omega
    obtain rfl : x = 97 := by simpa using e1.symm
    cases out with
    | nil => exact absurd (exp_nil (by decide) k0) (by decide)
    | cons m1 out =>
      rcases exp_first (by decide) k0 (h2 _ (by simp)) with ⟨x, e1, rfl, k1⟩ | ⟨n, d, a1, a2, a3, a4, a5, a6, a7, a8⟩
      rotate_left
      · obtain rfl : d = 1 := by omega
        have := a7 0 (by omega)
        exact absurd this (by decide)
      obtain rfl : x = 98 := by simpa using e1.symm
      cases out with
      | nil => exact absurd (exp_nil (by decide) k1) (by decide)
      | cons m2 out =>
        rcases exp_first (by decide) k1 (h2 _ (by simp)) with ⟨x, e1, rfl, k2⟩ | ⟨n, d, a1, a2, a3, a4, a5, a6, a7, a8⟩
        rotate_left
        · have := a7 0 (by omega)
          rcases (by omega : d = 1 ∨ d = 2) with rfl | rfl
          · exact absurd this (by decide)
          · exact absurd this (by decide)
        obtain rfl : x = 99 := by simpa using e1.symm
        cases out with
        | nil => exact absurd (exp_nil (by decide) k2) (by decide)
        | cons m3 out =>
          have : out = [] := by
            cases out with
            | nil => rfl
            | cons _ _ => simp at hlen
          subst this
          rcases exp_first (by decide) k2 (h2 _ (by simp)) with ⟨x, e1, rfl, k3⟩ | ⟨n, d, a1, a2, a3, a4, a5, rfl, a7, a8⟩
          · exact absurd (exp_nil (by decide) k3) (by decide)
          · have := exp_nil a5 a8
            have hn : n = 6 := by simp at this; omega
            subst hn
            have := a7 0 (by omega)
            rcases (by omega : d = 1 ∨ d = 2 ∨ d = 3) with rfl | rfl | rfl
            · exact absurd this (by decide)
            · exact absurd this (by decide)
            · rfl
theorem found_a8 {out : List (Int × Int × Int)} (h : Found [97, 97, 97, 97, 97, 97, 97, 97] out) : out.length = 2 := by
  obtain ⟨h1, h2, _, h4⟩ := h
  have hlen := h4 [(0, 0, 97), (7, 1, 0)] (by simp only [List.mem_cons, List.not_mem_nil, or_false]; rintro m (rfl | rfl) <;> exact ⟨by decide, by decide, by decide⟩) (by decide)
  clear h4
  have h1' : expF out (List.take 0 [97, 97, 97, 97, 97, 97, 97, 97]) = ([97, 97, 97, 97, 97, 97, 97, 97], 0) := h1
  cases out with
  | nil => exact absurd (exp_nil (s := _) (p := 0) (by decide) h1') (by decide)
  | cons m0 out =>
    rcases exp_first (by decide) h1' (h2 _ (by simp)) with ⟨x, e1, rfl, k0⟩ | ⟨n, d, a1, a2, a3, a4, _⟩
    rotate_left
    · omega
    cases out with
    | nil => exact absurd (exp_nil (by decide) k0) (by decide)
    | cons m1 out => simp at hlen ⊢; omega
end Go.Proofs.Ytppnaofebkpbkaa.lz
/-
  The small separation logic: a range over a string, scopes, a rune as a string. Nothing here speaks of the program.
-/
namespace Go.Proofs.Ytppnaofebkpbkaa.sl
open Go.RowKit kit
set_option linter.unusedVariables false
/-- block b is an iterator of the string l that stands at pos -/
def iter (b : Nat) (l : List UInt8) (pos : Nat) : Ent where
  excl := true
  foot j := j = b
  holds w := w.heap[b]? = some (.stringIter (str l) pos)
  lt h hk := by
    subst hk
    exact (Array.getElem?_eq_some_iff.1 h).1
  keep h _ _ _ _ hb := by rw [hb b rfl]; exact h
/-- the rune at a place, and how many bytes it has -/
def runeAt (l : List UInt8) (pos : Nat) : Nat := (Utf8.decode (str l) pos).1
def wideAt (l : List UInt8) (pos : Nat) : Nat := (Utf8.decode (str l) pos).2
section
variable {P : Program} {Q : Post} {n : Nat} {F : Frm} {H R : List Ent} {o : Oper} {x y z : Operand} {v u z' : Value} {T S : TypeId}
theorem opr_range {l : List UInt8} [ht : Strg P T] (ho : o.op = .range T x) (hx : ev F x = some (.string (str l))) : Opr P n o F H fun u H' => ∃ b, u = bptr b 0 ∧ H' = iter b l 0 :: H := fun Q a w next ha hw hn => by
  unfold Oper.wp
  simp only [execOp, ho, ha.eval hx, run_range_string w T (str l) ht.h, Sem.run_bind, Sem.run_pure, Result.andThen_ok, Oper.upon]
  refine hn _ _ _ ⟨w.heap.size, rfl, rfl⟩ (HeapOk.new hw (moved_alloc w _) ?_ fun j hj => ?_)
  · exact World.iter_heap w (str l) 0
  · have : j = w.heap.size := hj
    omega
theorem opr_next {b pos : Nat} {l : List UInt8} (ho : o.op = .next x true) (hx : ev F x = some (bptr b 0)) (p : Pick (iter b l pos) H R) (h : pos < l.length) : Opr P n o F H fun u H' => u = .tuple #[.bool true, .int .i64 (pos : Int), .int .i32 (runeAt l pos : Int)] ∧ H' = iter b l (pos + wideAt l pos) :: R := fun Q a w next ha hw hn => by
  have hw' := hw.perm p.perm
  have hb : w.heap[b]? = some (.stringIter (str l) pos) := hw'.head
  have hs : pos < (str l).size := by rw [str_size]; exact h
  have hlt := (Array.getElem?_eq_some_iff.1 hb).1
  have hr : (Instr.next (bptr b 0) true o.type).run P w = .ok (.tuple #[.bool true, .int .i64 (pos : Int), .int .i32 (runeAt l pos : Int)]) { w with heap := w.heap.setIfInBounds b (.stringIter (str l) (pos + wideAt l pos)) } := by
    simp only [Instr.next, bptr, getObj, setObj, Sem.run_bind, Sem.run, hb, Result.andThen, hs, if_true]
    simp [goInt, runeAt, wideAt]
  unfold Oper.wp
  simp only [execOp, ho, ha.eval hx, hr, Sem.run_bind, Sem.run_pure, Result.andThen_ok, Oper.upon]
  refine hn _ _ _ ⟨rfl, rfl⟩ (HeapOk.upd hw' rfl ⟨rfl, rfl, rfl, by simp, fun j _ hne => ?_⟩ ?_ fun j hj => .inl hj)
  · have hne' : ¬ b = j := fun e => hne (show j = b from e.symm)
    simp [hne']
  · show (w.heap.setIfInBounds b _)[b]? = _
    simp [hlt]
theorem opr_next_end {b pos : Nat} {l : List UInt8} (ho : o.op = .next x true) (hx : ev F x = some (bptr b 0)) (p : Pick (iter b l pos) H R) (h : l.length ≤ pos) : Opr P n o F H fun u H' => u = .tuple #[.bool false] ∧ H' = H := fun Q a w next ha hw hn => by
  have hb : w.heap[b]? = some (.stringIter (str l) pos) := hw.1 _ p.mem
  have hs : ¬ pos < (str l).size := by rw [str_size]; omega
  have hr : (Instr.next (bptr b 0) true o.type).run P w = .ok (.tuple #[.bool false]) w := by
    simp [Instr.next, bptr, getObj, Sem.run, hb, hs]
  unfold Oper.wp
  simp only [execOp, ho, ha.eval hx, hr, Sem.run_bind, Sem.run_pure, Result.andThen_ok, Oper.upon]
  exact hn _ _ _ ⟨rfl, rfl⟩ hw
theorem q_runestr {k : IntKind} {i : Int} [hs : Knd P S] [hd : Strg P T] (ho : o.op = .convert S T x) (hx : ev F x = some (.int k i)) : Qt P n o F H (.string (Utf8.encode i)) := fun a w ha _ => by
  have h1 := run_convert_int_string (P := P) w S T k i hs.h hd.h
  simp only [execOp, ho, ha.eval hx, h1, Sem.run_bind, Result.andThen_ok, Sem.run_pure]
theorem cod_scope {c : Code} (h : Cod P (Exit.noGoto Q) n c F H) : Cod P Q n (.scope c) F H := fun a w ha hw => wp_scope_straight (h a w ha hw)
theorem pst_scope (h : Pst Q .normal n F H) : Pst (Exit.noGoto Q) .normal n F H := h
theorem pst_scope_ret (h : Pst Q .ret n F H) : Pst (Exit.noGoto Q) .ret n F H := h
theorem pst_scope_exit {id : Nat} (h : Pst Q (.exit id) n F H) : Pst (Exit.noGoto Q) (.exit id) n F H := h
theorem cod_label {l : Nat} (h : Pst Q .normal n F H) : Cod P Q n (.label l) F H := fun a w ha hw => wp_label (h a w ha hw)
end
theorem dec_facts (s : ByteArray) (i : Nat) (h : i < s.size) :
    1 ≤ (Utf8.decode s i).2 ∧ i + (Utf8.decode s i).2 ≤ s.size ∧ ((Utf8.decode s i).1 < 128 → (Utf8.decode s i).2 = 1 ∧ (s.get! (i + 0)).toNat = (Utf8.decode s i).1) ∧ (128 ≤ (Utf8.decode s i).1 → ∀ k, k < (Utf8.decode s i).2 → 128 ≤ (s.get! (i + k)).toNat) ∧ ((Utf8.decode s i).1 < 128 ∨ (Utf8.decode s i).1 = 65533 ∨ Utf8.valid (Utf8.decode s i).1 = true) := by
  simp only [Utf8.decode, Utf8.runeError]
  split
  · exact ⟨Nat.le_refl _, by simp; omega, fun _ => ⟨rfl, rfl⟩, fun h => by dsimp only at h; omega, .inl (by assumption)⟩
  · have hb0 : 128 ≤ (s.get! (i + 0)).toNat := by omega
    have one : 1 ≤ (65533, 1).2 ∧ i + (65533, 1).2 ≤ s.size ∧ ((65533, 1).1 < 128 → (65533, 1).2 = 1 ∧ (s.get! (i + 0)).toNat = (65533, 1).1) ∧ (128 ≤ (65533, 1).1 → ∀ k, k < (65533, 1).2 → 128 ≤ (s.get! (i + k)).toNat) ∧ ((65533, 1).1 < 128 ∨ (65533, 1).1 = 65533 ∨ Utf8.valid (((65533, 1).1 : Nat) : Int) = true) :=
      ⟨by decide, by simp; omega, fun h => absurd h (by decide), fun _ k hk => by
        have : k = 0 := by dsimp only at hk; omega
        subst this
        exact hb0, .inr (.inl rfl)⟩
    split
    · rename_i hc
      simp only [Bool.and_eq_true, beq_iff_eq, decide_eq_true_eq] at hc
      split
      · refine ⟨by simp, by simp; omega, fun h => by dsimp only at h; omega, fun _ k hk => ?_, .inr (.inr ?_)⟩
        · dsimp only at hk
          rcases Nat.lt_or_ge k 1 with hk1 | hk1
          · have : k = 0 := by omega
            subst this; omega
          · have : k = 1 := by omega
            subst this; omega
        · unfold Utf8.valid
          simp
          omega
      · exact one
    · split
      · rename_i hc
        simp only [Bool.and_eq_true, beq_iff_eq, decide_eq_true_eq] at hc
        split
        · rename_i hv
          simp only [Bool.and_eq_true, decide_eq_true_eq] at hv
          refine ⟨by simp, by simp; omega, fun h => by dsimp only at h; omega, fun _ k hk => ?_, .inr (.inr ?_)⟩
          · dsimp only at hk
            rcases Nat.lt_or_ge k 1 with hk1 | hk1
            · have : k = 0 := by omega
              subst this; omega
            · rcases Nat.lt_or_ge k 2 with hk2 | hk2
              · have : k = 1 := by omega
                subst this; omega
              · have : k = 2 := by omega
                subst this; omega
          · exact hv.2
        · exact one
      · split
        · rename_i hc
          simp only [Bool.and_eq_true, beq_iff_eq, decide_eq_true_eq] at hc
          split
          · rename_i hv
            simp only [Bool.and_eq_true, decide_eq_true_eq] at hv
            refine ⟨by simp, by simp; omega, fun h => by dsimp only at h; omega, fun _ k hk => ?_, .inr (.inr ?_)⟩
            · dsimp only at hk
              rcases Nat.lt_or_ge k 1 with hk1 | hk1
              · have : k = 0 := by omega
                subst this; omega
              · rcases Nat.lt_or_ge k 2 with hk2 | hk2
                · have : k = 1 := by omega
                  subst this; omega
                · rcases Nat.lt_or_ge k 3 with hk3 | hk3
                  · have : k = 2 := by omega
                    subst this; omega
                  · have : k = 3 := by omega
                    subst this; omega
            · exact hv.2
          · exact one
        · exact one
theorem str_get! (l : List UInt8) (i : Nat) : (str l).get! i = l.getD i 0 := by
  show (ByteArray.mk l.toArray).get! i = _
  unfold ByteArray.get!
  simp [List.getD_eq_getElem?_getD]
  rfl
/-- the same over lists -/
theorem rune_facts {l : List UInt8} {i : Nat} (h : i < l.length) :
    1 ≤ wideAt l i ∧ i + wideAt l i ≤ l.length ∧ (runeAt l i < 128 → wideAt l i = 1 ∧ (l.getD i 0).toNat = runeAt l i) ∧ (128 ≤ runeAt l i → ∀ k, k < wideAt l i → 128 ≤ (l.getD (i + k) 0).toNat) ∧ (runeAt l i < 128 ∨ runeAt l i = 65533 ∨ Utf8.valid (runeAt l i) = true) := by
  have hd := dec_facts (str l) i (by rw [str_size]; exact h)
  rw [str_size] at hd
  simp only [str_get!, Nat.add_zero] at hd
  exact hd
theorem rune_le (l : List UInt8) (i : Nat) : runeAt l i ≤ 2147483647 := decode_le (str l) i
end Go.Proofs.Ytppnaofebkpbkaa.sl
/-
  lz.longest: the longest copies at each place: the walk.
-/
namespace Go.Proofs.Ytppnaofebkpbkaa.lz
open Go.RowKit kit sl Go.WideMaps
set_option linter.unusedVariables false
set_option pp.maxSteps 20000
/-! ### rows of numbers -/
def rowN (n : Nat) (B : Nat → Nat) : List Int := (List.range n).map fun i => (B i : Int)
def upd1 (B : Nat → Nat) (i v : Nat) : Nat → Nat := fun j => if j = i then v else B j
theorem rowN_len (n : Nat) (B : Nat → Nat) : (rowN n B).length = n := by simp [rowN]
theorem rowN_at {n i : Nat} (B : Nat → Nat) (h : i < n) : (rowN n B)[i]? = some ((B i : Nat) : Int) := by
  unfold rowN
  rw [List.getElem?_map, List.getElem?_range h]
  rfl
theorem rowN_set {n i : Nat} (B : Nat → Nat) (v : Nat) (h : i < n) : (rowN n B).set i (v : Int) = rowN n (upd1 B i v) := by
  apply List.ext_getElem?
  intro j
  rw [List.getElem?_set]
  rcases Nat.lt_or_ge j n with hj | hj
  · rw [rowN_at _ hj, rowN_at _ hj]
    unfold upd1
    by_cases e : i = j
    · subst e
      rw [if_pos rfl, if_pos (by rw [rowN_len]; exact h), if_pos rfl]
    · rw [if_neg e, if_neg (fun h => e h.symm)]
  · rw [if_neg (by omega), List.getElem?_eq_none (by rw [rowN_len]; exact hj), List.getElem?_eq_none (by rw [rowN_len]; exact hj)]
theorem rowN_zero (n : Nat) : List.replicate n (0 : Int) = rowN n (fun _ => 0) := by
  apply List.ext_getElem?
  intro j
  rcases Nat.lt_or_ge j n with hj | hj
  · rw [rowN_at _ hj, List.getElem?_replicate, if_pos hj]; rfl
  · rw [List.getElem?_eq_none (by simpa using hj), List.getElem?_eq_none (by rw [rowN_len]; exact hj)]
theorem upd1_self (B : Nat → Nat) (i : Nat) : upd1 B i (B i) = B := by
  funext j
  unfold upd1
  split
  · rename_i h; rw [h]
  · rfl
theorem upd1_upd1 (B : Nat → Nat) (i v w : Nat) : upd1 (upd1 B i v) i w = upd1 B i w := by
  funext j
  unfold upd1
  split <;> rfl
theorem upd1_at (B : Nat → Nat) (i v : Nat) : upd1 B i v i = v := by unfold upd1; rw [if_pos rfl]
theorem upd1_ne (B : Nat → Nat) {i j : Nat} (v : Nat) (h : j ≠ i) : upd1 B i v j = B j := by unfold upd1; rw [if_neg h]
/-! ### the table of triples -/
abbrev Row3 := K3 × List Int × Option Addr × Nat
def rowE (r : Row3) : Ent := own (.slice r.2.2.1 r.2.1.length r.2.2.2) 3 1 r.2.1.length (flat fI r.2.1)
def slv (r : Row3) : Value := .slice r.2.2.1 r.2.1.length r.2.2.2
def look3 : List Row3 → K3 → Value
  | [], _ => .slice none 0 0
  | r :: tab, t => if t = r.1 then slv r else look3 tab t
def tabE (tab : List Row3) : Ent := bundle (tab.map rowE)
def tri (s : List UInt8) (k : Nat) (t : K3) : Prop := s[k]? = some t.1 ∧ s[k + 1]? = some t.2.1 ∧ s[k + 2]? = some t.2.2
theorem tri_one {s : List UInt8} {k : Nat} {t u : K3} (h : tri s k t) (g : tri s k u) : t = u := by
  obtain ⟨a, b, c⟩ := t
  obtain ⟨a', b', c'⟩ := u
  obtain ⟨h1, h2, h3⟩ := h
  obtain ⟨g1, g2, g3⟩ := g
  rw [h1] at g1; rw [h2] at g2; rw [h3] at g3
  simp only [Option.some.injEq] at g1 g2 g3
  rw [g1, g2, g3]
def PosOf (s : List UInt8) (i : Nat) (t : K3) (xs : List Int) : Prop := (∀ x ∈ xs, ∃ k : Nat, x = (k : Int) ∧ k < i ∧ tri s k t) ∧ (∀ k, k < i → tri s k t → (k : Int) ∈ xs) ∧ xs.length ≤ i
def TabOk (s : List UInt8) (i : Nat) (tab : List Row3) : Prop := tab.Pairwise (fun r u => r.1 ≠ u.1) ∧ (∀ r ∈ tab, PosOf s i r.1 r.2.1) ∧ ∀ k t, k < i → tri s k t → ∃ r ∈ tab, r.1 = t
theorem look3_not {tab : List Row3} {t : K3} (h : ∀ r ∈ tab, r.1 ≠ t) : look3 tab t = .slice none 0 0 := by
  induction tab with
  | nil => rfl
  | cons r tab ih => rw [look3, if_neg (fun e => h r List.mem_cons_self e.symm), ih fun r hr => h r (List.mem_cons_of_mem _ hr)]
theorem look3_mid {A B : List Row3} {r : Row3} (h : ∀ u ∈ A, u.1 ≠ r.1) : look3 (A ++ r :: B) r.1 = slv r := by
  induction A with
  | nil => rw [List.nil_append, look3, if_pos rfl]
  | cons u A ih => rw [List.cons_append, look3, if_neg (fun e => h u List.mem_cons_self e.symm), ih fun r hr => h r (List.mem_cons_of_mem _ hr)]
theorem look3_skip {A B : List Row3} {r : Row3} {t : K3} (h : t ≠ r.1) : look3 (A ++ r :: B) t = look3 (A ++ B) t := by
  induction A with
  | nil => rw [List.nil_append, look3, if_neg h, List.nil_append]
  | cons u A ih => rw [List.cons_append, List.cons_append, look3, look3, ih]
theorem pos_more {s : List UInt8} {i : Nat} {t u : K3} {xs : List Int} (hi : tri s i t) (hne : u ≠ t) (h : PosOf s i u xs) : PosOf s (i + 1) u xs := by
  obtain ⟨h1, h2, h3⟩ := h
  refine ⟨fun x hx => ?_, fun k hk hu => ?_, by omega⟩
  · obtain ⟨k, e1, e2, e3⟩ := h1 x hx
    exact ⟨k, e1, by omega, e3⟩
  · rcases Nat.lt_or_ge k i with h | h
    · exact h2 k h hu
    · obtain rfl : k = i := by omega
      exact absurd (tri_one hu hi) hne
theorem pos_add {s : List UInt8} {i : Nat} {t : K3} {xs : List Int} (hi : tri s i t) (h : PosOf s i t xs) : PosOf s (i + 1) t (xs ++ [(i : Int)]) := by
  obtain ⟨h1, h2, h3⟩ := h
  refine ⟨fun x hx => ?_, fun k hk hu => ?_, by simp; omega⟩
  · rcases List.mem_append.1 hx with hx | hx
    · obtain ⟨k, e1, e2, e3⟩ := h1 x hx
      exact ⟨k, e1, by omega, e3⟩
    · rw [List.mem_singleton.1 hx]
      exact ⟨i, rfl, by omega, hi⟩
  · rcases Nat.lt_or_ge k i with h | h
    · exact List.mem_append_left _ (h2 k h hu)
    · obtain rfl : k = i := by omega
      exact List.mem_append_right _ (List.mem_singleton.2 rfl)
/-- the row of one triple, laid open -/
theorem tab_open {s : List UInt8} {i : Nat} {tab : List Row3} {t : K3} (h : TabOk s i tab) (hi : tri s i t) :
    ∃ (xs : List Int) (q : Option Addr) (c : Nat) (rest : List Row3), look3 tab t = .slice q xs.length c ∧ (∀ {H R : List Ent}, Pick (tabE tab) H R → HSub H (own (.slice q xs.length c) 3 1 xs.length (flat fI xs) :: tabE rest :: R)) ∧ PosOf s i t xs ∧
      ∀ (ys : List Int) (q' : Option Addr) (c' : Nat), PosOf s (i + 1) t ys → TabOk s (i + 1) ((t, ys, q', c') :: rest) ∧ (fun j => if j = t then Value.slice q' ys.length c' else look3 tab j) = look3 ((t, ys, q', c') :: rest) := by
  obtain ⟨h1, h2, h3⟩ := h
  by_cases hex : ∃ r ∈ tab, r.1 = t
  · obtain ⟨r, hr, rfl⟩ := hex
    obtain ⟨A, B, rfl⟩ := List.append_of_mem hr
    have hpm : (A ++ r :: B).Perm (r :: (A ++ B)) := List.perm_middle
    have h1' : (r :: (A ++ B)).Pairwise (fun r u => r.1 ≠ u.1) := (hpm.pairwise_iff (fun {a b} (h : a.1 ≠ b.1) => h.symm)).1 h1
    have hp := List.pairwise_cons.1 h1'
    refine ⟨r.2.1, r.2.2.1, r.2.2.2, A ++ B, look3_mid (fun u hu => (hp.1 u (List.mem_append_left _ hu)).symm), fun {H R} p => bundle_out p ?_, h2 r hr, fun ys q' c' hys => ⟨⟨?_, ?_, ?_⟩, ?_⟩⟩
    · have := hpm.map rowE
      rw [List.map_cons] at this
      exact this
    · exact List.pairwise_cons.2 ⟨fun u hu => hp.1 u hu, hp.2⟩
    · intro u hu
      rcases List.mem_cons.1 hu with rfl | hu
      · exact hys
      · exact pos_more hi (fun e => hp.1 u hu e.symm) (h2 u (hpm.mem_iff.2 (List.mem_cons_of_mem _ hu)))
    · intro k u hk hu
      rcases Nat.lt_or_ge k i with hki | hki
      · obtain ⟨v, hv, e⟩ := h3 k u hki hu
        rcases List.mem_cons.1 (hpm.mem_iff.1 hv) with rfl | hv
        · exact ⟨_, List.mem_cons_self, e⟩
        · exact ⟨v, List.mem_cons_of_mem _ hv, e⟩
      · obtain rfl : k = i := by omega
        exact ⟨_, List.mem_cons_self, tri_one hi hu⟩
    · funext j
      rw [look3]
      dsimp only
      split
      · rfl
      · rename_i hne; exact look3_skip hne
  · have hn : ∀ r ∈ tab, r.1 ≠ t := fun r hr e => hex ⟨r, hr, e⟩
    refine ⟨[], none, 0, tab, look3_not hn, fun {H R} p => ?_, ⟨fun x hx => absurd hx List.not_mem_nil, fun k hk hu => ?_, Nat.zero_le _⟩, fun ys q' c' hys => ⟨⟨?_, ?_, ?_⟩, ?_⟩⟩
    · exact HSub.trans (hsub_perm p.perm) (heap_nil _ 3 1)
    · obtain ⟨r, hr, e⟩ := h3 k t hk hu
      exact absurd e (hn r hr)
    · exact List.pairwise_cons.2 ⟨fun u hu e => hn u hu e.symm, h1⟩
    · intro u hu
      rcases List.mem_cons.1 hu with rfl | hu
      · exact hys
      · exact pos_more hi (hn u hu) (h2 u hu)
    · intro k u hk hu
      rcases Nat.lt_or_ge k i with hki | hki
      · obtain ⟨v, hv, e⟩ := h3 k u hki hu
        exact ⟨v, List.mem_cons_of_mem _ hv, e⟩
      · obtain rfl : k = i := by omega
        exact ⟨_, List.mem_cons_self, tri_one hi hu⟩
    · funext j
      rw [look3]
      rfl
/-- at place i, after some of the places ahead that begin alike -/
def Part (s : List UInt8) (xs : List Int) (i idx n d : Nat) : Prop := (n = 0 ∨ (3 ≤ n ∧ n ≤ 66 ∧ i + n ≤ s.length ∧ 1 ≤ d ∧ d ≤ i ∧ mat s (i - d) i n)) ∧ ∀ k m : Nat, (k : Int) ∈ xs.take idx → 3 ≤ m → m ≤ 66 → i + m ≤ s.length → mat s k i m → m ≤ n
theorem part_nil (s : List UInt8) (xs : List Int) (i : Nat) : Part s xs i 0 0 0 := ⟨.inl rfl, fun k m h => by rw [List.take_zero] at h; exact absurd h List.not_mem_nil⟩
theorem part_all {s : List UInt8} {xs : List Int} {i n d : Nat} {t : K3} (hi : tri s i t) (hx : PosOf s i t xs) (h : Part s xs i xs.length n d) : LongAt s i n d := by
  refine ⟨h.1, fun k m hk h3 h66 hl hm => ?_⟩
  refine h.2 k m ?_ h3 h66 hl hm
  rw [List.take_length]
  refine hx.2.1 k hk ⟨?_, ?_, ?_⟩
  · have := hm 0 (by omega); simp only [Nat.add_zero] at this; rw [this]; exact hi.1
  · rw [hm 1 (by omega)]; exact hi.2.1
  · rw [hm 2 (by omega)]; exact hi.2.2
/-- how far two places go on alike -/
theorem part_next {s : List UInt8} {xs : List Int} {i idx n d k n2 : Nat} {t : K3} (hi : tri s i t) (hk : xs[idx]? = some (k : Int)) (hki : k < i) (hkt : tri s k t) (h : Part s xs i idx n d) (h3 : 3 ≤ n2) (h66 : n2 ≤ 66) (hl : i + n2 ≤ s.length) (hm : mat s k i n2)
    (hend : n2 = 66 ∨ i + n2 = s.length ∨ s[k + n2]? ≠ s[i + n2]?) :
    (n2 < n → Part s xs i (idx + 1) n d) ∧ (n ≤ n2 → Part s xs i (idx + 1) n2 (i - k)) := by
  have hmax : ∀ m, 3 ≤ m → m ≤ 66 → i + m ≤ s.length → mat s k i m → m ≤ n2 := fun m _ hm66 hml hmm => by
    rcases hend with h | h | h
    · omega
    · omega
    · rcases Nat.lt_or_ge n2 m with h9 | h9
      · exact absurd (hmm n2 h9) h
      · exact h9
  have htk : xs.take (idx + 1) = xs.take idx ++ [(k : Int)] := by
    rw [List.take_add_one, hk]; rfl
  refine ⟨fun hlt => ⟨h.1, fun k2 m hk2 => ?_⟩, fun hle => ⟨.inr ⟨h3, h66, hl, by omega, by omega, by rw [show i - (i - k) = k by omega]; exact hm⟩, fun k2 m hk2 a1 a2 a3 a4 => ?_⟩⟩
  · intro a1 a2 a3 a4
    rw [htk] at hk2
    rcases List.mem_append.1 hk2 with hk2 | hk2
    · exact h.2 k2 m hk2 a1 a2 a3 a4
    · have : k2 = k := by have := List.mem_singleton.1 hk2; omega
      subst this
      have := hmax m a1 a2 a3 a4
      omega
  · rw [htk] at hk2
    rcases List.mem_append.1 hk2 with hk2 | hk2
    · have := h.2 k2 m hk2 a1 a2 a3 a4; omega
    · have : k2 = k := by have := List.mem_singleton.1 hk2; omega
      subst this
      exact hmax m a1 a2 a3 a4
theorem mat_tri {s : List UInt8} {k i : Nat} {t : K3} (h : tri s k t) (g : tri s i t) : mat s k i 3 := by
  intro j hj
  rcases (by omega : j = 0 ∨ j = 1 ∨ j = 2) with rfl | rfl | rfl
  · show s[k]? = s[i]?; rw [h.1, g.1]
  · rw [h.2.1, g.2.1]
  · rw [h.2.2, g.2.2]
theorem mat_next {s : List UInt8} {k i n : Nat} (h : mat s k i n) (g : s[k + n]? = s[i + n]?) : mat s k i (n + 1) := by
  intro j hj
  rcases (by omega : j < n ∨ j = n) with h1 | rfl
  · exact h j h1
  · exact g
/-- before place i -/
def Longs (s : List UInt8) (L D : Nat → Nat) (i : Nat) : Prop := ∀ j, (j < i → LongAt s j (L j) (D j)) ∧ (i ≤ j → L j = 0 ∧ D j = 0)
theorem longs_next {s : List UInt8} {L D : Nat → Nat} {i n d : Nat} (h : Longs s L D i) (g : LongAt s i n d) : Longs s (upd1 L i n) (upd1 D i d) (i + 1) := by
  intro j
  by_cases e : j = i
  · subst e
    rw [upd1_at, upd1_at]
    exact ⟨fun _ => g, fun h => by omega⟩
  · rw [upd1_ne _ _ e, upd1_ne _ _ e]
    exact ⟨fun hj => (h j).1 (by omega), fun hj => (h j).2 (by omega)⟩
theorem longs_all {s : List UInt8} {L D : Nat → Nat} {i : Nat} (h : Longs s L D i) (hi : s.length < i + 3) : LongAll s L D := by
  intro j hj
  rcases Nat.lt_or_ge j i with h1 | h1
  · exact (h j).1 h1
  · obtain ⟨e1, e2⟩ := (h j).2 h1
    rw [e1, e2]
    exact ⟨.inl rfl, fun k m _ h3 _ hl _ => by omega⟩
theorem rowE_x (r : Row3) : (rowE r).excl = true := rfl
attribute [local irreducible] box own sl old bptr eptr Qt Opr Run Cod Pst Drn
instance : Key3 Try.prog 130 := ⟨⟨5, ⟨by kernel_rfl, by kernel_rfl, by kernel_rfl, by kernel_rfl⟩, by kernel_rfl⟩, ⟨Try.prog.types.size - 1, by kernel_rfl⟩⟩
set_option maxRecDepth 100000 in
set_option maxHeartbeats 8000000 in
theorem longest_any (s : List UInt8) (hs : s.length ≤ 512) :
    Ct Try.prog 59 [.string (str s)] [] fun v H' => ∃ L D q1 q2, LongAll s L D ∧ v = .tuple #[.slice q1 s.length s.length, .slice q2 s.length s.length] ∧ H' = [own (.slice q1 s.length s.length) 3 1 s.length (flat fI (rowN s.length L)), own (.slice q2 s.length s.length) 3 1 s.length (flat fI (rowN s.length D))] := by
  obtain ⟨N, hN⟩ : ∃ N, s.length = N := ⟨_, rfl⟩
  rw [hN]
  rw [hN] at hs
  (refine spec_enter Try.func59 Try.ntmps59 rfl rfl fun Fr => ?_; dsimp only [List.cons_append, List.nil_append, ini, Nat.reduceAdd])
  (repeat' (first | (apply run_qg 1; (focus rfl); (focus exact wt); (focus rfl); (focus (exact qg1))) | refine cod_seq ?_ | refine cod_region ?_ | refine run_nil ?_ | refine pst_then ?_))
  refine cod_cut_drop 0 (σ := Option Addr × Option Addr) (fun _ => True) (fun x => [(2, .slice x.1 N N), (3, .slice x.2 N N)]) (fun x => [own (.slice x.1 N N) 3 1 N (flat fI (rowN N fun _ => 0)), own (.slice x.2 N N) 3 1 N (flat fI (rowN N fun _ => 0))]) ?_ ?_ <;> dsimp only [List.drop]
  · (refine cod_drawn_ks (Hq := []) [] [] rfl (by kernel_rfl) (by simp only [List.length_cons, List.length_nil, Nat.reduceAdd]; rfl) ?_)
    (repeat' (first | (apply drnK_take 1; (focus rfl); (focus rfl); (focus exact wt); (focus (decide +kernel)); (focus exact hsq); (focus rfl); (focus (exact qg1))) | (apply drnK_take 6; (focus rfl); (focus rfl); (focus exact wt); (focus (decide +kernel)); (focus exact hsq); (focus rfl); (focus (first | exact qs6 | exact qg6 | exact q_max rfl rfl rfl | exact q_sliceData rfl rfl (by omega) | exact q_sliceDataN rfl rfl | exact q_unsafeStringN rfl rfl rfl | exact q_cap_slice rfl rfl))) | (apply drnK_done; (focus (decide +kernel))) | (apply drnK_skip; (focus rfl)) | (apply drnK_wrap; (focus rfl))))
    (refine drnK_at 2 ?_; refine drnK_two 5 (by kernel_rfl) ?_ ?_)
    · ((first | refine drnI_s 1 2 (by rfl) wt (by rfl) (by exact (opr_make (fI) (0) (c := N) rfl rfl rfl (by first | rfl | omega) (by first | rfl | omega) rfl rfl (by omega) (by (unfold maxLen); omega))) ?_ | refine drnI_n 1 2 (by rfl) wt (by exact (opr_make (fI) (0) (c := N) rfl rfl rfl (by first | rfl | omega) (by first | rfl | omega) rfl rfl (by omega) (by (unfold maxLen); omega))) ?_); rintro _ _ ⟨q1, rfl, rfl⟩; refine ⟨(by first | exact fun h => absurd h (by decide) | exact fun _ => hsq), ?_⟩; (try dsimp only [List.cons_append, List.nil_append]))
      (repeat' (first | (apply drnK_take 1; (focus rfl); (focus rfl); (focus exact wt); (focus (decide +kernel)); (focus exact hsq); (focus rfl); (focus (exact qg1))) | (apply drnK_done; (focus (decide +kernel))) | (apply drnK_skip; (focus rfl)) | (apply drnK_wrap; (focus rfl))))
      (refine drnK_at 5 ?_; (first | refine drnK_ones _ (by rfl) (by rfl) (by kernel_rfl) wt (by rfl) (by exact (opr_make (fI) (0) (c := N) rfl rfl rfl (by first | rfl | omega) (by first | rfl | omega) rfl rfl (by omega) (by (unfold maxLen); omega))) ?_ | refine drnK_onen _ (by rfl) (by rfl) (by kernel_rfl) wt (by exact (opr_make (fI) (0) (c := N) rfl rfl rfl (by first | rfl | omega) (by first | rfl | omega) rfl rfl (by omega) (by (unfold maxLen); omega))) ?_); rintro _ _ ⟨q2, rfl, rfl⟩; refine ⟨(by first | exact fun h => absurd h (by decide) | exact fun _ => hsq), ?_⟩; (try dsimp only [List.cons_append, List.nil_append]))
      rw [rowN_zero]
      (repeat' (first | (apply drnK_take 1; (focus rfl); (focus rfl); (focus exact wt); (focus (decide +kernel)); (focus exact hsq); (focus rfl); (focus (exact qg1))) | (apply drnK_end; (focus (decide +kernel))) | (apply drnK_done; (focus (decide +kernel)))))
      exact pst_cut ((q1, q2)) (by trivial) (FSub.of fsa) hsa
    · ((first | refine drnI_s 1 5 (by rfl) wt (by rfl) (by exact (opr_make (fI) (0) (c := N) rfl rfl rfl (by first | rfl | omega) (by first | rfl | omega) rfl rfl (by omega) (by (unfold maxLen); omega))) ?_ | refine drnI_n 1 5 (by rfl) wt (by exact (opr_make (fI) (0) (c := N) rfl rfl rfl (by first | rfl | omega) (by first | rfl | omega) rfl rfl (by omega) (by (unfold maxLen); omega))) ?_); rintro _ _ ⟨q2, rfl, rfl⟩; refine ⟨(by first | exact fun h => absurd h (by decide) | exact fun _ => hsq), ?_⟩; (try dsimp only [List.cons_append, List.nil_append]))
      (repeat' (first | (apply drnK_done; (focus (decide +kernel))) | (apply drnK_skip; (focus rfl)) | (apply drnK_wrap; (focus rfl))))
      (refine drnK_at 2 ?_; (first | refine drnK_ones _ (by rfl) (by rfl) (by kernel_rfl) wt (by rfl) (by exact (opr_make (fI) (0) (c := N) rfl rfl rfl (by first | rfl | omega) (by first | rfl | omega) rfl rfl (by omega) (by (unfold maxLen); omega))) ?_ | refine drnK_onen _ (by rfl) (by rfl) (by kernel_rfl) wt (by exact (opr_make (fI) (0) (c := N) rfl rfl rfl (by first | rfl | omega) (by first | rfl | omega) rfl rfl (by omega) (by (unfold maxLen); omega))) ?_); rintro _ _ ⟨q1, rfl, rfl⟩; refine ⟨(by first | exact fun h => absurd h (by decide) | exact fun _ => hsq), ?_⟩; (try dsimp only [List.cons_append, List.nil_append]))
      rw [rowN_zero]
      (repeat' (first | (apply drnK_take 1; (focus rfl); (focus rfl); (focus exact wt); (focus (decide +kernel)); (focus exact hsq); (focus rfl); (focus (exact qg1))) | (apply drnK_end; (focus (decide +kernel))) | (apply drnK_done; (focus (decide +kernel)))))
      exact pst_cut ((q1, q2)) (by trivial) (FSub.of fsa) hsa
  rintro ⟨q1, q2⟩ _
  dsimp only [List.cons_append, List.nil_append]
  (repeat' (first | refine cod_seq ?_ | refine cod_region ?_ | refine pst_then ?_))
  refine run_os wt rfl (opr_makeMapA (k := 130) (z' := .slice none 0 0) (e := 22) rfl) ?_
  rintro _ _ ⟨bm, rfl, rfl⟩
  rw [show (fun _ : K3 => Value.slice none 0 0) = look3 [] from rfl]
  (repeat' (first | (apply run_qg 1; (focus rfl); (focus exact wt); (focus rfl); (focus (exact qg1))) | refine cod_seq ?_ | refine cod_region ?_ | refine run_nil ?_ | refine pst_then ?_ | refine cod_block ?_))
  refine cod_heap (H' := tabE [] :: _) (bundle_nil _) ?_
  (refine cod_loop_rw (σ := Nat × (Nat → Nat) × (Nat → Nat) × List Row3) (fun x => x.1 ≤ N ∧ Longs s x.2.1 x.2.2.1 x.1 ∧ TabOk s x.1 x.2.2.2) (fun x => [(5, .int .i64 (x.1 : Int))]) (fun x => [amap Try.prog 130 (.slice none 0 0) bm x.1 (look3 x.2.2.2), own (.slice q1 N N) 3 1 N (flat fI (rowN N x.2.1)), own (.slice q2 N N) 3 1 N (flat fI (rowN N x.2.2.1)), tabE x.2.2.2]) _ (fun x => N - x.1) ((0, fun _ => 0, fun _ => 0, [])) (by exact ⟨Nat.zero_le _, fun j => ⟨fun h => absurd h (Nat.not_lt_zero _), fun _ => ⟨rfl, rfl⟩⟩, List.Pairwise.nil, fun r hr => absurd hr List.not_mem_nil, fun k t hk => absurd hk (Nat.not_lt_zero _)⟩) (by exact fsa) (by (first | exact HSub.of_picks_rest (by exact pca))) (fun ⟨i, L, D, tab⟩ ⟨hiN, hL, hT⟩ => ?_); dsimp only [List.cons_append, List.nil_append])
  dsimp only at hiN hL hT ⊢
  rcases Nat.lt_or_ge N (i + 3) with hge | hlt
  · (repeat' (first | (apply run_qg 1; (focus rfl); (focus exact wt); (focus rfl); (focus (exact qg1))) | (apply run_qg 4; (focus rfl); (focus exact wt); (focus rfl); (focus (first | exact qg4 | exact qs4))) | (apply run_qg 6; (focus rfl); (focus exact wt); (focus rfl); (focus (first | exact qs6 | exact qg6 | exact q_max rfl rfl rfl | exact q_sliceData rfl rfl (by omega) | exact q_sliceDataN rfl rfl | exact q_unsafeStringN rfl rfl rfl | exact q_cap_slice rfl rfl))) | refine cod_seq ?_ | refine cod_region ?_ | refine run_nil ?_ | refine pst_then ?_ | (apply cod_cond_f; (focus rfl)) | refine cod_exit ?_ | refine cod_ret ?_ | refine pst_block_here ?_ | refine pst_then_exit ?_))
    exact pst_fin rfl (by exact resa) _ (⟨L, D, q1, q2, longs_all hL (by omega), rfl, rfl⟩) (by exact hsa)
  · obtain ⟨x0, h0⟩ : ∃ x, s[i]? = some x := ⟨_, List.getElem?_eq_getElem (by omega)⟩
    obtain ⟨x1, h1⟩ : ∃ x, s[i + 1]? = some x := ⟨_, List.getElem?_eq_getElem (by omega)⟩
    obtain ⟨x2, h2⟩ : ∃ x, s[i + 2]? = some x := ⟨_, List.getElem?_eq_getElem (by omega)⟩
    have ht : tri s i (x0, x1, x2) := ⟨h0, h1, h2⟩
    (repeat' (first | (apply run_qg 1; (focus rfl); (focus exact wt); (focus rfl); (focus (exact qg1))) | (apply run_qg 4; (focus rfl); (focus exact wt); (focus rfl); (focus (first | exact qg4 | exact qs4))) | (apply run_qg 6; (focus rfl); (focus exact wt); (focus rfl); (focus (first | exact qs6 | exact qg6 | exact q_max rfl rfl rfl | exact q_sliceData rfl rfl (by omega) | exact q_sliceDataN rfl rfl | exact q_unsafeStringN rfl rfl rfl | exact q_cap_slice rfl rfl))) | refine cod_seq ?_ | refine cod_region ?_ | refine run_nil ?_ | refine pst_then ?_ | (apply cod_cond_t; (focus rfl)) | refine cod_block ?_ | refine cod_skip ?_ | refine cod_scope ?_))
    (refine cod_drawn_ks (Hq := []) [] [] rfl (by kernel_rfl) (by simp only [List.length_cons, List.length_nil, Nat.reduceAdd]; rfl) ?_)
    (repeat' (first | (apply drnK_take 1; (focus rfl); (focus rfl); (focus exact wt); (focus (decide +kernel)); (focus exact hsq); (focus rfl); (focus (exact qg1))) | (apply drnK_take 3; (focus rfl); (focus rfl); (focus exact wt); (focus (decide +kernel)); (focus exact hsq); (focus rfl); (focus (first | exact qg3 | exact qs3))) | (apply drnK_take 4; (focus rfl); (focus rfl); (focus exact wt); (focus (decide +kernel)); (focus exact hsq); (focus rfl); (focus (first | exact qg4 | exact qs4))) | (apply drnK_done; (focus (decide +kernel))) | (apply drnK_skip; (focus rfl)) | (apply drnK_wrap; (focus rfl))))
    (refine drnK_at 11 ?_; refine drnK_take _ rfl rfl wt (by decide +kernel) hsq rfl (q_build3 (e := 5) (z3 := .int .u8 0) (by kernel_rfl) rfl rfl rfl rfl rfl rfl rfl) ?_)
    (repeat' (first | (apply run_qg 1; (focus rfl); (focus exact wt); (focus rfl); (focus (exact qg1))) | (apply run_qg 2; (focus rfl); (focus exact wt); (focus rfl); (focus (first | exact qg2 | exact qs2))) | refine cod_seq ?_ | refine cod_region ?_ | refine pst_then ?_ | refine cod_label ?_ | (apply drnK_ones 8; (focus rfl); (focus rfl); (focus (decide +kernel)); (focus exact wt); (focus rfl); (focus (exact opr_new rfl)); (rintro _ _ ⟨b, rfl, rfl⟩; refine ⟨(by first | exact fun h => absurd h (by decide) | exact fun _ => hsq), ?_⟩)) | (apply drnK_onen 9; (focus rfl); (focus rfl); (focus (decide +kernel)); (focus exact wt); (focus (exact opr_store_box_agg rfl rfl rfl (by exact pka) rfl rfl rfl (by exact spla))); (rintro _ _ ⟨rfl, rfl⟩; refine ⟨(by first | exact fun h => absurd h (by decide) | exact fun _ => hsq), ?_⟩)) | (apply drnK_end; (focus (decide +kernel)))))
    obtain ⟨xs, q, c, rest, e1, e2, e3, e4⟩ := tab_open hT ht
    have hi2 : i < N := by omega
    have z1 : upd1 L i 0 = L := by have := upd1_self L i; rwa [((hL i).2 (Nat.le_refl _)).1] at this
    have z2 : upd1 D i 0 = D := by have := upd1_self D i; rwa [((hL i).2 (Nat.le_refl _)).2] at this
    have hxl := e3.2.2
    refine run_qs wt rfl (q_lookupA (t := (x0, x1, x2)) (e := 22) rfl rfl rfl pka e1) ?_
    refine run_heap (e2 pka) ?_
    (repeat' (first | (apply run_qg 1; (focus rfl); (focus exact wt); (focus rfl); (focus (exact qg1))) | (apply run_qg 6; (focus rfl); (focus exact wt); (focus rfl); (focus (first | exact qs6 | exact qg6 | exact q_max rfl rfl rfl | exact q_sliceData rfl rfl (by omega) | exact q_sliceDataN rfl rfl | exact q_unsafeStringN rfl rfl rfl | exact q_cap_slice rfl rfl))) | refine run_nil ?_ | refine pst_then ?_ | refine cod_block ?_))
    rw [← z1, ← z2]
    (refine cod_loop_rw (σ := Nat × Nat × Nat) (fun x => x.1 ≤ xs.length ∧ Part s xs i x.1 x.2.1 x.2.2) (fun x => [(40, .int .i64 (x.1 : Int))]) (fun x => [own (.slice q1 N N) 3 1 N (flat fI (rowN N (upd1 L i x.2.1))), own (.slice q2 N N) 3 1 N (flat fI (rowN N (upd1 D i x.2.2)))]) _ (fun x => xs.length - x.1) ((0, 0, 0)) (by exact ⟨Nat.zero_le _, part_nil _ _ _⟩) (by exact fsa) (by (first | exact HSub.of_picks_rest (by exact pca))) (fun ⟨idx, n0, d0⟩ ⟨hidx, hP⟩ => ?_); dsimp only [List.cons_append, List.nil_append])
    dsimp only at hidx hP ⊢
    have gL : (rowN N (upd1 L i n0))[i]? = some (n0 : Int) := by rw [rowN_at _ hi2, upd1_at]
    have gD : (rowN N (upd1 D i d0))[i]? = some (d0 : Int) := by rw [rowN_at _ hi2, upd1_at]
    have hn0 : n0 ≤ 66 ∧ i + n0 ≤ N := by rcases hP.1 with h | h <;> omega
    rcases Nat.lt_or_ge idx xs.length with hlt2 | hge2
    · obtain ⟨x, hx⟩ : ∃ x, xs[idx]? = some x := ⟨_, List.getElem?_eq_getElem hlt2⟩
      obtain ⟨k, rfl, hki, hkt⟩ := e3.1 x (List.mem_of_getElem? hx)
      have hk := hx
      have hik : (i : Int) - (k : Int) = ((i - k : Nat) : Int) := by omega
      (repeat' (first | (apply run_qg 1; (focus rfl); (focus exact wt); (focus rfl); (focus (exact qg1))) | (apply run_qg 2; (focus rfl); (focus exact wt); (focus rfl); (focus (first | exact qg2 | exact qs2))) | (apply run_qg 3; (focus rfl); (focus exact wt); (focus rfl); (focus (first | exact qg3 | exact qs3))) | (apply run_qg 4; (focus rfl); (focus exact wt); (focus rfl); (focus (first | exact qg4 | exact qs4))) | refine cod_seq ?_ | refine cod_region ?_ | refine run_nil ?_ | refine pst_then ?_ | (apply cod_cond_t; (focus rfl)) | refine cod_block ?_ | refine cod_skip ?_))
      (refine cod_loop_ro (σ := Nat) (fun n => 3 ≤ n ∧ n ≤ 66 ∧ i + n ≤ N ∧ mat s k i n) (fun n => [(9, .int .i64 (n : Int))]) (fun n => 66 - n) (3) (by exact ⟨by decide, by decide, by omega, mat_tri hkt ht⟩) (by exact fsa) (fun n ⟨h3, h66, hin, hm⟩ => ?_); dsimp only [List.cons_append, List.nil_append])
      by_cases hn66 : n = 66
      · have pn := part_next ht hk hki hkt hP h3 h66 (by omega) hm (.inl hn66)
        rcases Nat.lt_or_ge n n0 with hlt3 | hge3
        · omega
        · (repeat' (first | (apply run_qg 1; (focus rfl); (focus exact wt); (focus rfl); (focus (exact qg1))) | (apply run_qg 2; (focus rfl); (focus exact wt); (focus rfl); (focus (first | exact qg2 | exact qs2))) | (apply run_qg 3; (focus rfl); (focus exact wt); (focus rfl); (focus (first | exact qg3 | exact qs3))) | (apply run_qg 4; (focus rfl); (focus exact wt); (focus rfl); (focus (first | exact qg4 | exact qs4))) | refine cod_seq ?_ | refine cod_region ?_ | refine run_nil ?_ | refine pst_then ?_ | (apply cod_cond_f; (focus rfl)) | refine cod_exit ?_ | refine cod_skip ?_ | refine pst_block_here ?_ | refine pst_then_exit ?_ | (apply run_offs; (focus rfl); (focus rfl); (focus rfl))))
          (refine run_on wt (opr_store_ownm (f := fI) (q' := (n : Int)) rfl rfl rfl rfl (by exact pka) rfl (by omega) (by intro _; rfl) (by assumption) rfl rfl (by rfl)) ?_; rintro _ _ ⟨rfl, rfl⟩)
          rw [rowN_set _ _ hi2, upd1_upd1]
          (repeat' (first | (apply run_qg 3; (focus rfl); (focus exact wt); (focus rfl); (focus (first | exact qg3 | exact qs3)))))
          rw [hik]
          (refine run_on wt (opr_store_ownm (f := fI) (q' := ((i - k : Nat) : Int)) rfl rfl rfl rfl (by exact pka) rfl (by omega) (by intro _; rfl) (by assumption) rfl rfl (by rfl)) ?_; rintro _ _ ⟨rfl, rfl⟩)
          rw [rowN_set _ _ hi2, upd1_upd1]
          (repeat' (first | (apply run_qg 1; (focus rfl); (focus exact wt); (focus rfl); (focus (exact qg1))) | (apply run_qg 4; (focus rfl); (focus exact wt); (focus rfl); (focus (first | exact qg4 | exact qs4))) | refine cod_region ?_ | refine run_nil ?_ | refine pst_then ?_ | refine pst_block ?_))
          refine pst_again ((idx + 1, n, i - k)) ?_ (FSub.of (by (try dsimp only); exact fsa)) (by (try dsimp only); exact hsa) ?_
          · exact ⟨by omega, pn.2 hge3⟩
          · dsimp only; omega
      · by_cases hnN : i + n = N
        · have pn := part_next ht hk hki hkt hP h3 h66 (by omega) hm (.inr (.inl (by omega)))
          rcases Nat.lt_or_ge n n0 with hlt3 | hge3
          · omega
          · (repeat' (first | (apply run_qg 1; (focus rfl); (focus exact wt); (focus rfl); (focus (exact qg1))) | (apply run_qg 2; (focus rfl); (focus exact wt); (focus rfl); (focus (first | exact qg2 | exact qs2))) | (apply run_qg 3; (focus rfl); (focus exact wt); (focus rfl); (focus (first | exact qg3 | exact qs3))) | (apply run_qg 4; (focus rfl); (focus exact wt); (focus rfl); (focus (first | exact qg4 | exact qs4))) | (apply run_qg 6; (focus rfl); (focus exact wt); (focus rfl); (focus (first | exact qs6 | exact qg6 | exact q_max rfl rfl rfl | exact q_sliceData rfl rfl (by omega) | exact q_sliceDataN rfl rfl | exact q_unsafeStringN rfl rfl rfl | exact q_cap_slice rfl rfl))) | refine cod_seq ?_ | refine cod_region ?_ | refine run_nil ?_ | refine pst_then ?_ | (apply cod_cond_f; (focus rfl)) | refine cod_exit ?_ | refine cod_skip ?_ | refine pst_block_here ?_ | refine pst_then_exit ?_))
            (refine run_on wt (opr_store_ownm (f := fI) (q' := (n : Int)) rfl rfl rfl rfl (by exact pka) rfl (by omega) (by intro _; rfl) (by assumption) rfl rfl (by rfl)) ?_; rintro _ _ ⟨rfl, rfl⟩)
            rw [rowN_set _ _ hi2, upd1_upd1]
            (repeat' (first | (apply run_qg 3; (focus rfl); (focus exact wt); (focus rfl); (focus (first | exact qg3 | exact qs3)))))
            rw [hik]
            (refine run_on wt (opr_store_ownm (f := fI) (q' := ((i - k : Nat) : Int)) rfl rfl rfl rfl (by exact pka) rfl (by omega) (by intro _; rfl) (by assumption) rfl rfl (by rfl)) ?_; rintro _ _ ⟨rfl, rfl⟩)
            rw [rowN_set _ _ hi2, upd1_upd1]
            (repeat' (first | (apply run_qg 1; (focus rfl); (focus exact wt); (focus rfl); (focus (exact qg1))) | (apply run_qg 4; (focus rfl); (focus exact wt); (focus rfl); (focus (first | exact qg4 | exact qs4))) | refine cod_region ?_ | refine run_nil ?_ | refine pst_then ?_ | refine pst_block ?_))
            refine pst_again ((idx + 1, n, i - k)) ?_ (FSub.of (by (try dsimp only); exact fsa)) (by (try dsimp only); exact hsa) ?_
            · exact ⟨by omega, pn.2 hge3⟩
            · dsimp only; omega
        · obtain ⟨y1, hy1⟩ : ∃ y, s[k + n]? = some y := ⟨_, List.getElem?_eq_getElem (by omega)⟩
          obtain ⟨y2, hy2⟩ : ∃ y, s[i + n]? = some y := ⟨_, List.getElem?_eq_getElem (by omega)⟩
          by_cases hyy : y1 = y2
          · subst hyy
            (repeat' (first | (apply run_qg 1; (focus rfl); (focus exact wt); (focus rfl); (focus (exact qg1))) | (apply run_qg 4; (focus rfl); (focus exact wt); (focus rfl); (focus (first | exact qg4 | exact qs4))) | (apply run_qg 6; (focus rfl); (focus exact wt); (focus rfl); (focus (first | exact qs6 | exact qg6 | exact q_max rfl rfl rfl | exact q_sliceData rfl rfl (by omega) | exact q_sliceDataN rfl rfl | exact q_unsafeStringN rfl rfl rfl | exact q_cap_slice rfl rfl))) | refine cod_seq ?_ | refine cod_region ?_ | refine run_nil ?_ | refine pst_then ?_ | (apply cod_cond_t; (focus rfl)) | (apply cod_cond_f; (focus rfl)) | refine cod_block ?_ | refine cod_skip ?_ | refine pst_block ?_ | (apply cod_drawn_k; (focus kernel_rfl); (focus (simp only [List.length_cons, List.length_nil, Nat.reduceAdd]; rfl))) | (apply drnK_take 1; (focus rfl); (focus rfl); (focus exact wt); (focus (decide +kernel)); (focus exact hsq); (focus rfl); (focus (exact qg1))) | (apply drnK_take 3; (focus rfl); (focus rfl); (focus exact wt); (focus (decide +kernel)); (focus exact hsq); (focus rfl); (focus (first | exact qg3 | exact qs3))) | (apply drnK_take 4; (focus rfl); (focus rfl); (focus exact wt); (focus (decide +kernel)); (focus exact hsq); (focus rfl); (focus (first | exact qg4 | exact qs4))) | (apply drnK_end; (focus (decide +kernel)))))
            refine pst_again (n + 1) ?_ (FSub.of (by (try dsimp only); exact fsa)) (by (try dsimp only); exact hsa) ?_
            · exact ⟨by omega, by omega, by omega, mat_next hm (by rw [hy1, hy2])⟩
            · omega
          · have hyn : y1.toNat ≠ y2.toNat := fun h => hyy (UInt8.toNat_inj.1 h)
            have pn := part_next ht hk hki hkt hP h3 h66 (by omega) hm (.inr (.inr (by rw [hy1, hy2]; exact fun h => hyy (Option.some.inj h))))
            rcases Nat.lt_or_ge n n0 with hlt3 | hge3
            · (repeat' (first | (apply run_qg 1; (focus rfl); (focus exact wt); (focus rfl); (focus (exact qg1))) | (apply run_qg 2; (focus rfl); (focus exact wt); (focus rfl); (focus (first | exact qg2 | exact qs2))) | (apply run_qg 3; (focus rfl); (focus exact wt); (focus rfl); (focus (first | exact qg3 | exact qs3))) | (apply run_qg 4; (focus rfl); (focus exact wt); (focus rfl); (focus (first | exact qg4 | exact qs4))) | (apply run_qg 6; (focus rfl); (focus exact wt); (focus rfl); (focus (first | exact qs6 | exact qg6 | exact q_max rfl rfl rfl | exact q_sliceData rfl rfl (by omega) | exact q_sliceDataN rfl rfl | exact q_unsafeStringN rfl rfl rfl | exact q_cap_slice rfl rfl))) | refine cod_seq ?_ | refine cod_region ?_ | refine run_nil ?_ | refine pst_then ?_ | (apply cod_cond_t; (focus rfl)) | refine cod_block ?_ | refine cod_exit ?_ | refine cod_skip ?_ | refine pst_block_here ?_ | refine pst_block_out rfl ?_ | refine pst_then_exit ?_ | (apply cod_drawn_k; (focus kernel_rfl); (focus (simp only [List.length_cons, List.length_nil, Nat.reduceAdd]; rfl))) | (apply drnK_take 1; (focus rfl); (focus rfl); (focus exact wt); (focus (decide +kernel)); (focus exact hsq); (focus rfl); (focus (exact qg1))) | (apply drnK_take 3; (focus rfl); (focus rfl); (focus exact wt); (focus (decide +kernel)); (focus exact hsq); (focus rfl); (focus (first | exact qg3 | exact qs3))) | (apply drnK_take 4; (focus rfl); (focus rfl); (focus exact wt); (focus (decide +kernel)); (focus exact hsq); (focus rfl); (focus (first | exact qg4 | exact qs4))) | (apply drnK_end; (focus (decide +kernel)))))
              refine pst_again ((idx + 1, n0, d0)) ?_ (FSub.of (by (try dsimp only); exact fsa)) (by (try dsimp only); exact hsa) ?_
              · exact ⟨by omega, pn.1 hlt3⟩
              · dsimp only; omega
            · (repeat' (first | (apply run_qg 1; (focus rfl); (focus exact wt); (focus rfl); (focus (exact qg1))) | (apply run_qg 2; (focus rfl); (focus exact wt); (focus rfl); (focus (first | exact qg2 | exact qs2))) | (apply run_qg 3; (focus rfl); (focus exact wt); (focus rfl); (focus (first | exact qg3 | exact qs3))) | (apply run_qg 4; (focus rfl); (focus exact wt); (focus rfl); (focus (first | exact qg4 | exact qs4))) | (apply run_qg 6; (focus rfl); (focus exact wt); (focus rfl); (focus (first | exact qs6 | exact qg6 | exact q_max rfl rfl rfl | exact q_sliceData rfl rfl (by omega) | exact q_sliceDataN rfl rfl | exact q_unsafeStringN rfl rfl rfl | exact q_cap_slice rfl rfl))) | refine cod_seq ?_ | refine cod_region ?_ | refine run_nil ?_ | refine pst_then ?_ | (apply cod_cond_t; (focus rfl)) | (apply cod_cond_f; (focus rfl)) | refine cod_block ?_ | refine cod_exit ?_ | refine cod_skip ?_ | refine pst_block_here ?_ | refine pst_block_out rfl ?_ | refine pst_then_exit ?_ | (apply cod_drawn_k; (focus kernel_rfl); (focus (simp only [List.length_cons, List.length_nil, Nat.reduceAdd]; rfl))) | (apply drnK_take 1; (focus rfl); (focus rfl); (focus exact wt); (focus (decide +kernel)); (focus exact hsq); (focus rfl); (focus (exact qg1))) | (apply drnK_take 3; (focus rfl); (focus rfl); (focus exact wt); (focus (decide +kernel)); (focus exact hsq); (focus rfl); (focus (first | exact qg3 | exact qs3))) | (apply drnK_take 4; (focus rfl); (focus rfl); (focus exact wt); (focus (decide +kernel)); (focus exact hsq); (focus rfl); (focus (first | exact qg4 | exact qs4))) | (apply drnK_end; (focus (decide +kernel)))))
              (refine run_on wt (opr_store_ownm (f := fI) (q' := (n : Int)) rfl rfl rfl rfl (by exact pka) rfl (by omega) (by intro _; rfl) (by assumption) rfl rfl (by rfl)) ?_; rintro _ _ ⟨rfl, rfl⟩)
              rw [rowN_set _ _ hi2, upd1_upd1]
              (repeat' (first | (apply run_qg 3; (focus rfl); (focus exact wt); (focus rfl); (focus (first | exact qg3 | exact qs3)))))
              rw [hik]
              (refine run_on wt (opr_store_ownm (f := fI) (q' := ((i - k : Nat) : Int)) rfl rfl rfl rfl (by exact pka) rfl (by omega) (by intro _; rfl) (by assumption) rfl rfl (by rfl)) ?_; rintro _ _ ⟨rfl, rfl⟩)
              rw [rowN_set _ _ hi2, upd1_upd1]
              (repeat' (first | (apply run_qg 1; (focus rfl); (focus exact wt); (focus rfl); (focus (exact qg1))) | (apply run_qg 4; (focus rfl); (focus exact wt); (focus rfl); (focus (first | exact qg4 | exact qs4))) | refine cod_region ?_ | refine run_nil ?_ | refine pst_then ?_ | refine pst_block ?_))
              refine pst_again ((idx + 1, n, i - k)) ?_ (FSub.of (by (try dsimp only); exact fsa)) (by (try dsimp only); exact hsa) ?_
              · exact ⟨by omega, pn.2 hge3⟩
              · dsimp only; omega
    · obtain rfl : idx = xs.length := by omega
      have hlong := part_all ht e3 hP
      (repeat' (first | (apply run_qg 1; (focus rfl); (focus exact wt); (focus rfl); (focus (exact qg1))) | (apply run_qg 2; (focus rfl); (focus exact wt); (focus rfl); (focus (first | exact qg2 | exact qs2))) | (apply run_qg 4; (focus rfl); (focus exact wt); (focus rfl); (focus (first | exact qg4 | exact qs4))) | refine cod_seq ?_ | refine cod_region ?_ | refine run_nil ?_ | refine pst_then ?_ | (apply cod_cond_f; (focus rfl)) | refine cod_exit ?_ | refine pst_block_here ?_ | refine pst_then_exit ?_ | (apply run_osg 10; (focus rfl); (focus exact wt); (focus rfl); (focus (exact opr_buildSlice rfl rfl rfl (by exact blda) rfl rfl (by decide) rfl)); (rintro _ _ ⟨q, rfl, rfl⟩))))
      refine run_os wt rfl (opr_mapEntryA (e := 22) rfl rfl rfl pka e1 (by unfold maxLen; omega)) ?_
      rintro _ _ ⟨st, rfl, rfl⟩
      (repeat' (first | (apply run_qg 1; (focus rfl); (focus exact wt); (focus rfl); (focus (exact qg1)))))
      refine run_os wt rfl (by first | exact opr_append_lit0 (fI) [(i : Int)] rfl rfl rfl (by exact pka) (by rfl) (by rfl) (by intro _; rfl) (by (first | exact one_fS | exact one_fI | exact one_fB | exact one_fP | exact one_fIIS | exact one_fIIIS | exact one_fII | exact one_fSI | exact one_fIIU | exact one_fY | exact one_fBl | exact one_fT | exact one_fE | assumption)) rfl (by simp only [List.length_cons, List.length_nil]; omega) (by (unfold maxLen); simp only [List.length_cons, List.length_nil]; omega) | exact opr_append_lit (fI) [(i : Int)] rfl rfl rfl (by exact pka) (by exact pka) (by rfl) (by rfl) (by first | rfl | omega) (by intro _; rfl) (by (first | exact one_fS | exact one_fI | exact one_fB | exact one_fP | exact one_fIIS | exact one_fIIIS | exact one_fII | exact one_fSI | exact one_fIIU | exact one_fY | exact one_fBl | exact one_fT | exact one_fE | assumption)) rfl (by simp only [List.length_cons, List.length_nil]; omega) (by (unfold maxLen); simp only [List.length_cons, List.length_nil]; omega)) ?_
      rintro _ _ ⟨q5, c5, rfl, rfl⟩
      (repeat' (first | (apply run_qg 1; (focus rfl); (focus exact wt); (focus rfl); (focus (exact qg1)))))
      refine run_on wt (opr_entryStoreA rfl rfl rfl rfl pka) ?_
      rintro _ _ ⟨rfl, rfl⟩
      obtain ⟨g1, g2⟩ := e4 (xs ++ [(i : Int)]) q5 c5 (pos_add ht e3)
      rw [g2]
      (repeat' (first | (apply run_qg 1; (focus rfl); (focus exact wt); (focus rfl); (focus (exact qg1))) | (apply run_qg 4; (focus rfl); (focus exact wt); (focus rfl); (focus (first | exact qg4 | exact qs4))) | refine cod_region ?_ | refine run_nil ?_ | refine pst_then ?_ | refine pst_block ?_ | refine pst_scope ?_))
      refine pst_weak (FSub.refl _) (bundle_in (e := rowE ((x0, x1, x2), xs ++ [(i : Int)], q5, c5)) (l := rest.map rowE) pka pka (rowE_x _)) ?_
      refine pst_again ((i + 1, upd1 L i n0, upd1 D i d0, ((x0, x1, x2), xs ++ [(i : Int)], q5, c5) :: rest)) ?_ (FSub.of (by (try dsimp only); exact fsa)) (by (try dsimp only); exact hsa) ?_
      · exact ⟨by omega, longs_next hL hlong, g1⟩
      · dsimp only; omega
end Go.Proofs.Ytppnaofebkpbkaa.lz
/-
  lz.Find: the fewest marks: the walk.
-/
namespace Go.Proofs.Ytppnaofebkpbkaa.lz
open Go.RowKit kit sl
set_option linter.unusedVariables false
theorem one_rowM (m : Int × Int × Int) : ∀ u ∈ rowM m, u.oneCell' = true := by simp [rowM, Value.oneCell']
/-- at place i, the copies shorter than n tried -/
def BestAt (L B : Nat → Nat) (i n b st : Nat) : Prop := (st = 1 ∨ 3 ≤ st ∧ st < n ∧ st ≤ L i) ∧ b = B (i + st) + 1 ∧ b ≤ B (i + 1) + 1 ∧ ∀ m, 3 ≤ m → m < n → m ≤ L i → b ≤ B (i + m) + 1
theorem best_nil (L B : Nat → Nat) (i : Nat) : BestAt L B i 3 (B (i + 1) + 1) 1 := ⟨.inl rfl, rfl, Nat.le_refl _, fun m h1 h2 => by omega⟩
theorem best_new {L B : Nat → Nat} {i n b st : Nat} (h : BestAt L B i n b st) (h3 : 3 ≤ n) (hn : n ≤ L i) (hb : B (i + n) + 1 ≤ b) : BestAt L B i (n + 1) (B (i + n) + 1) n := by
  obtain ⟨h1, h2, h4, h5⟩ := h
  refine ⟨.inr ⟨h3, by omega, hn⟩, rfl, by omega, fun m a1 a2 a3 => ?_⟩
  rcases (by omega : m < n ∨ m = n) with h | rfl
  · have := h5 m a1 h a3; omega
  · exact Nat.le_refl _
theorem best_old {L B : Nat → Nat} {i n b st : Nat} (h : BestAt L B i n b st) (hb : b < B (i + n) + 1) : BestAt L B i (n + 1) b st := by
  obtain ⟨h1, h2, h4, h5⟩ := h
  refine ⟨h1.imp id fun h => ⟨h.1, by omega, h.2.2⟩, h2, h4, fun m a1 a2 a3 => ?_⟩
  rcases (by omega : m < n ∨ m = n) with h | rfl
  · exact h5 m a1 h a3
  · omega
theorem dp_next {s : List UInt8} {L D B S : Nat → Nat} {i n b st : Nat} (hL : LongAll s L D) (hi : i < s.length) (hB : Dp s L B S (i + 1)) (h : BestAt L B i n b st) (hn : L i < n) : Dp s L (upd1 B i b) (upd1 S i st) i := by
  obtain ⟨h1, h2, h4, h5⟩ := h
  obtain ⟨g1, g2⟩ := hB
  have hb1 : ∀ j, i < j → upd1 B i b j = B j := fun j hj => upd1_ne _ _ (by omega)
  have hnx : B (i + 1) + (i + 1) ≤ s.length := by
    rcases Nat.lt_or_ge (i + 1) s.length with h | h
    · exact (g2 (i + 1) (Nat.le_refl _) h).2.2.2.2
    · have : i + 1 = s.length := by omega
      rw [this, g1]; omega
  refine ⟨by rw [hb1 _ hi]; exact g1, fun j hij hj => ?_⟩
  rcases (by omega : j = i ∨ i + 1 ≤ j) with rfl | hij2
  · rw [upd1_at, upd1_at, hb1 (j + 1) (by omega)]
    refine ⟨h1.imp id fun h => ⟨h.1, h.2.2⟩, ?_, h4, fun m a1 a2 => ?_, by omega⟩
    · rw [hb1 _ (by omega)]; exact h2
    · rw [hb1 _ (by omega)]; exact h5 m a1 (by omega) a2
  · obtain ⟨k1, k2, k3, k4, k5⟩ := g2 j hij2 hj
    rw [upd1_ne S st (by omega), hb1 j (by omega), hb1 (j + 1) (by omega)]
    refine ⟨k1, ?_, k3, fun m a1 a2 => ?_, k5⟩
    · rw [hb1 _ (by omega)]; exact k2
    · rw [hb1 _ (by omega)]; exact k4 m a1 a2
theorem dp_start {s : List UInt8} (L : Nat → Nat) : Dp s L (fun _ => 0) (fun _ => 0) s.length := ⟨rfl, fun i h1 h2 => by omega⟩
attribute [local irreducible] box own sl old bptr eptr Qt Opr Run Cod Pst Drn
set_option maxRecDepth 100000 in
set_option maxHeartbeats 8000000 in
theorem find_far (s : List UInt8) (hs : 512 < s.length) (hm : s.length ≤ maxLen) :
    Ct Try.prog 38 [.string (str s)] [] fun v H' => v = .tuple #[.slice none 0 0, .int .i64 2] ∧ H' = [] := by
  (refine spec_enter Try.func38 Try.ntmps38 rfl rfl fun Fr => ?_; dsimp only [List.cons_append, List.nil_append, ini, Nat.reduceAdd])
  (repeat' (first | (apply run_qg 1; (focus rfl); (focus exact wt); (focus rfl); (focus (exact qg1))) | (apply run_qg 4; (focus rfl); (focus exact wt); (focus rfl); (focus (first | exact qg4 | exact qs4))) | (apply run_qg 6; (focus rfl); (focus exact wt); (focus rfl); (focus (first | exact qs6 | exact qg6 | exact q_max rfl rfl rfl | exact q_sliceData rfl rfl (by omega) | exact q_sliceDataN rfl rfl | exact q_unsafeStringN rfl rfl rfl | exact q_cap_slice rfl rfl))) | refine cod_seq ?_ | refine cod_region ?_ | refine run_nil ?_ | refine pst_then ?_ | (apply cod_cond_t; (focus rfl)) | refine cod_ret ?_ | refine pst_then_ret ?_))
  exact pst_fin rfl (by exact resa) _ (⟨rfl, rfl⟩) (by exact hsa)
set_option maxRecDepth 100000 in
set_option maxHeartbeats 8000000 in
theorem find_any (s : List UInt8) (hs : s.length ≤ 512) :
    Ct Try.prog 38 [.string (str s)] [] fun v H' => ∃ out q c, Found s out ∧ v = .tuple #[.slice q out.length c, .int .i64 0] ∧ H' = [own (.slice q out.length c) 70 3 out.length (flat rowM out)] := by
  have C0 := longest_any s hs
  obtain ⟨N, hN⟩ : ∃ N, s.length = N := ⟨_, rfl⟩
  rw [hN] at C0 hs
  (refine spec_enter Try.func38 Try.ntmps38 rfl rfl fun Fr => ?_; dsimp only [List.cons_append, List.nil_append, ini, Nat.reduceAdd])
  (repeat' (first | (apply run_qg 1; (focus rfl); (focus exact wt); (focus rfl); (focus (exact qg1))) | (apply run_qg 4; (focus rfl); (focus exact wt); (focus rfl); (focus (first | exact qg4 | exact qs4))) | (apply run_qg 6; (focus rfl); (focus exact wt); (focus rfl); (focus (first | exact qs6 | exact qg6 | exact q_max rfl rfl rfl | exact q_sliceData rfl rfl (by omega) | exact q_sliceDataN rfl rfl | exact q_unsafeStringN rfl rfl rfl | exact q_cap_slice rfl rfl))) | refine cod_seq ?_ | refine cod_region ?_ | refine run_nil ?_ | refine pst_then ?_ | (apply cod_cond_f; (focus rfl)) | refine cod_skip ?_))
  (refine run_os wt rfl (opr_call_l rfl (C0) rfl (by exact lpa)) ?_; rintro _ _ ⟨_, ⟨L, D, q1, q2, hL, rfl, rfl⟩, rfl⟩; dsimp only [List.cons_append, List.nil_append])
  have hLN : ∀ i, i < N → L i = 0 ∨ 3 ≤ L i ∧ i + L i ≤ N := fun i hi => by
    rcases (hL i (by omega)).1 with h | h
    · exact .inl h
    · exact .inr ⟨h.1, by omega⟩
  (repeat' (first | (apply run_qg 1; (focus rfl); (focus exact wt); (focus rfl); (focus (exact qg1))) | refine cod_seq ?_ | refine run_nil ?_ | refine pst_then ?_))
  refine cod_cut_drop 0 (σ := Option Addr × Option Addr) (fun _ => True) (fun x => [(6, .slice x.1 (N + 1) (N + 1)), (7, .slice x.2 (N + 1) (N + 1))]) (fun x => [own (.slice x.1 (N + 1) (N + 1)) 3 1 (N + 1) (flat fI (rowN (N + 1) fun _ => 0)), own (.slice x.2 (N + 1) (N + 1)) 3 1 (N + 1) (flat fI (rowN (N + 1) fun _ => 0))]) ?_ ?_ <;> dsimp only [List.drop]
  · (refine cod_drawn_ks (Hq := []) [] [] rfl (by kernel_rfl) (by simp only [List.length_cons, List.length_nil, Nat.reduceAdd]; rfl) ?_)
    (repeat' (first | (apply drnK_take 1; (focus rfl); (focus rfl); (focus exact wt); (focus (decide +kernel)); (focus exact hsq); (focus rfl); (focus (exact qg1))) | (apply drnK_take 4; (focus rfl); (focus rfl); (focus exact wt); (focus (decide +kernel)); (focus exact hsq); (focus rfl); (focus (first | exact qg4 | exact qs4))) | (apply drnK_take 6; (focus rfl); (focus rfl); (focus exact wt); (focus (decide +kernel)); (focus exact hsq); (focus rfl); (focus (first | exact qs6 | exact qg6 | exact q_max rfl rfl rfl | exact q_sliceData rfl rfl (by omega) | exact q_sliceDataN rfl rfl | exact q_unsafeStringN rfl rfl rfl | exact q_cap_slice rfl rfl))) | (apply drnK_done; (focus (decide +kernel))) | (apply drnK_skip; (focus rfl)) | (apply drnK_wrap; (focus rfl))))
    (refine drnK_at 3 ?_; refine drnK_two 7 (by kernel_rfl) ?_ ?_)
    · ((first | refine drnI_s 1 3 (by rfl) wt (by rfl) (by exact (opr_make (fI) (0) (c := (N + 1)) rfl rfl rfl (by first | rfl | omega) (by first | rfl | omega) rfl rfl (by omega) (by (unfold maxLen); omega))) ?_ | refine drnI_n 1 3 (by rfl) wt (by exact (opr_make (fI) (0) (c := (N + 1)) rfl rfl rfl (by first | rfl | omega) (by first | rfl | omega) rfl rfl (by omega) (by (unfold maxLen); omega))) ?_); rintro _ _ ⟨q3, rfl, rfl⟩; refine ⟨(by first | exact fun h => absurd h (by decide) | exact fun _ => hsq), ?_⟩; (try dsimp only [List.cons_append, List.nil_append]))
      (repeat' (first | (apply drnK_take 1; (focus rfl); (focus rfl); (focus exact wt); (focus (decide +kernel)); (focus exact hsq); (focus rfl); (focus (exact qg1))) | (apply drnK_done; (focus (decide +kernel))) | (apply drnK_skip; (focus rfl)) | (apply drnK_wrap; (focus rfl))))
      (refine drnK_at 7 ?_; (first | refine drnK_ones _ (by rfl) (by rfl) (by kernel_rfl) wt (by rfl) (by exact (opr_make (fI) (0) (c := (N + 1)) rfl rfl rfl (by first | rfl | omega) (by first | rfl | omega) rfl rfl (by omega) (by (unfold maxLen); omega))) ?_ | refine drnK_onen _ (by rfl) (by rfl) (by kernel_rfl) wt (by exact (opr_make (fI) (0) (c := (N + 1)) rfl rfl rfl (by first | rfl | omega) (by first | rfl | omega) rfl rfl (by omega) (by (unfold maxLen); omega))) ?_); rintro _ _ ⟨q4, rfl, rfl⟩; refine ⟨(by first | exact fun h => absurd h (by decide) | exact fun _ => hsq), ?_⟩; (try dsimp only [List.cons_append, List.nil_append]))
      rw [rowN_zero]
      (repeat' (first | (apply drnK_take 1; (focus rfl); (focus rfl); (focus exact wt); (focus (decide +kernel)); (focus exact hsq); (focus rfl); (focus (exact qg1))) | (apply drnK_end; (focus (decide +kernel))) | (apply drnK_done; (focus (decide +kernel)))))
      exact pst_cut ((q3, q4)) (by trivial) (FSub.of fsa) hsa
    · ((first | refine drnI_s 1 7 (by rfl) wt (by rfl) (by exact (opr_make (fI) (0) (c := (N + 1)) rfl rfl rfl (by first | rfl | omega) (by first | rfl | omega) rfl rfl (by omega) (by (unfold maxLen); omega))) ?_ | refine drnI_n 1 7 (by rfl) wt (by exact (opr_make (fI) (0) (c := (N + 1)) rfl rfl rfl (by first | rfl | omega) (by first | rfl | omega) rfl rfl (by omega) (by (unfold maxLen); omega))) ?_); rintro _ _ ⟨q4, rfl, rfl⟩; refine ⟨(by first | exact fun h => absurd h (by decide) | exact fun _ => hsq), ?_⟩; (try dsimp only [List.cons_append, List.nil_append]))
      (repeat' (first | (apply drnK_done; (focus (decide +kernel))) | (apply drnK_skip; (focus rfl)) | (apply drnK_wrap; (focus rfl))))
      (refine drnK_at 3 ?_; (first | refine drnK_ones _ (by rfl) (by rfl) (by kernel_rfl) wt (by rfl) (by exact (opr_make (fI) (0) (c := (N + 1)) rfl rfl rfl (by first | rfl | omega) (by first | rfl | omega) rfl rfl (by omega) (by (unfold maxLen); omega))) ?_ | refine drnK_onen _ (by rfl) (by rfl) (by kernel_rfl) wt (by exact (opr_make (fI) (0) (c := (N + 1)) rfl rfl rfl (by first | rfl | omega) (by first | rfl | omega) rfl rfl (by omega) (by (unfold maxLen); omega))) ?_); rintro _ _ ⟨q3, rfl, rfl⟩; refine ⟨(by first | exact fun h => absurd h (by decide) | exact fun _ => hsq), ?_⟩; (try dsimp only [List.cons_append, List.nil_append]))
      rw [rowN_zero]
      (repeat' (first | (apply drnK_take 1; (focus rfl); (focus rfl); (focus exact wt); (focus (decide +kernel)); (focus exact hsq); (focus rfl); (focus (exact qg1))) | (apply drnK_end; (focus (decide +kernel))) | (apply drnK_done; (focus (decide +kernel)))))
      exact pst_cut ((q3, q4)) (by trivial) (FSub.of fsa) hsa
  rintro ⟨q3, q4⟩ _
  dsimp only [List.cons_append, List.nil_append]
  (repeat' (first | (apply run_qg 1; (focus rfl); (focus exact wt); (focus rfl); (focus (exact qg1))) | (apply run_qg 4; (focus rfl); (focus exact wt); (focus rfl); (focus (first | exact qg4 | exact qs4))) | (apply run_qg 6; (focus rfl); (focus exact wt); (focus rfl); (focus (first | exact qs6 | exact qg6 | exact q_max rfl rfl rfl | exact q_sliceData rfl rfl (by omega) | exact q_sliceDataN rfl rfl | exact q_unsafeStringN rfl rfl rfl | exact q_cap_slice rfl rfl))) | refine cod_seq ?_ | refine cod_region ?_ | refine run_nil ?_ | refine pst_then ?_ | refine cod_block ?_))
  rw [hN]
  (refine cod_loop_rw (σ := Nat × (Nat → Nat) × (Nat → Nat)) (fun x => x.1 ≤ N ∧ Dp s L x.2.1 x.2.2 x.1) (fun x => [(8, .int .i64 ((x.1 : Int) - 1))]) (fun x => [own (.slice q3 (N + 1) (N + 1)) 3 1 (N + 1) (flat fI (rowN (N + 1) x.2.1)), own (.slice q4 (N + 1) (N + 1)) 3 1 (N + 1) (flat fI (rowN (N + 1) x.2.2))]) _ (fun x => x.1) ((N, fun _ => 0, fun _ => 0)) (by exact ⟨Nat.le_refl _, by rw [← hN]; exact dp_start L⟩) (by exact fsa) (by (first | exact HSub.of_picks_rest (by exact pca))) (fun ⟨j, B, S⟩ ⟨hjN, hB⟩ => ?_); dsimp only [List.cons_append, List.nil_append])
  dsimp only at hjN hB ⊢
  cases j with
  | zero =>
    (repeat' (first | (apply run_qg 1; (focus rfl); (focus exact wt); (focus rfl); (focus (exact qg1))) | (apply run_qg 4; (focus rfl); (focus exact wt); (focus rfl); (focus (first | exact qg4 | exact qs4))) | refine cod_seq ?_ | refine cod_region ?_ | refine run_nil ?_ | refine pst_then ?_ | (apply cod_cond_f; (focus rfl)) | refine cod_block ?_ | refine cod_exit ?_ | refine pst_block_here ?_ | refine pst_then_exit ?_))
    refine cod_heap (heap_nil _ 70 3) ?_
    (refine cod_loop_rw (σ := Nat × Option Addr × Nat × List (Int × Int × Int)) (fun x => Way s B x.1 x.2.2.2) (fun x => [(11, .int .i64 (x.1 : Int)), (10, .slice x.2.1 x.2.2.2.length x.2.2.1)]) (fun x => [own (.slice x.2.1 x.2.2.2.length x.2.2.1) 70 3 x.2.2.2.length (flat rowM x.2.2.2)]) _ (fun x => N - x.1) ((0, none, 0, [])) (by exact way_nil s B) (by exact fsa) (by (first | exact HSub.of_picks_rest (by exact pca))) (fun ⟨i, q5, c5, out⟩ hW => ?_); dsimp only [List.cons_append, List.nil_append])
    dsimp only at hW ⊢
    have hiN : i ≤ N := by have := hW.1; omega
    have hB0 : B 0 ≤ N := by
      rcases Nat.eq_zero_or_pos s.length with h | h
      · have := hB.1; rw [h] at this; omega
      · have := (hB.2 0 (Nat.zero_le _) h).2.2.2.2; omega
    have hol : out.length ≤ 512 := by have := hW.2.2.2; omega
    rcases Nat.lt_or_ge i N with hlt | hge
    · have hi2 : i < s.length := by omega
      obtain ⟨x, hx⟩ : ∃ x, s[i]? = some x := ⟨_, List.getElem?_eq_getElem hi2⟩
      have hxd : s.getD i 0 = x := by rw [List.getD_eq_getElem?_getD, hx]; rfl
      have hWn := way_next (by omega) hL hB hi2 hW
      have hst := mark_step (by omega) hL hB hi2 hW.2.1
      have gS : (rowN (N + 1) S)[i]? = some ((S i : Nat) : Int) := rowN_at _ (by omega)
      have gD : (rowN N D)[i]? = some ((D i : Nat) : Int) := rowN_at _ (by omega)
      have hsum : (i : Int) + ((S i : Nat) : Int) = ((i + S i : Nat) : Int) := by omega
      have hS1 := hst.1
      have hS2 := hst.2.1
      by_cases hs1 : S i = 1
      · have hm : markF s S D i = (0, 0, (x.toNat : Int)) := by unfold markF; rw [if_pos hs1, hxd]
        rw [hm] at hWn
        (repeat' (first | (apply run_qg 1; (focus rfl); (focus exact wt); (focus rfl); (focus (exact qg1))) | (apply run_qg 2; (focus rfl); (focus exact wt); (focus rfl); (focus (first | exact qg2 | exact qs2))) | (apply run_qg 3; (focus rfl); (focus exact wt); (focus rfl); (focus (first | exact qg3 | exact qs3))) | (apply run_qg 4; (focus rfl); (focus exact wt); (focus rfl); (focus (first | exact qg4 | exact qs4))) | (apply run_qg 5; (focus rfl); (focus exact wt); (focus rfl); (focus (exact qg5))) | (apply run_qg 6; (focus rfl); (focus exact wt); (focus rfl); (focus (first | exact qs6 | exact qg6 | exact q_max rfl rfl rfl | exact q_sliceData rfl rfl (by omega) | exact q_sliceDataN rfl rfl | exact q_unsafeStringN rfl rfl rfl | exact q_cap_slice rfl rfl))) | refine cod_seq ?_ | refine cod_region ?_ | refine run_nil ?_ | refine pst_then ?_ | (apply cod_cond_t; (focus rfl)) | refine cod_block ?_ | refine cod_skip ?_ | (apply run_osg 10; (focus rfl); (focus exact wt); (focus rfl); (focus (exact opr_buildSlice rfl rfl rfl (by exact blda) rfl rfl (by decide) rfl)); (rintro _ _ ⟨q, rfl, rfl⟩))))
        refine run_os wt rfl (by first | exact opr_append_lit0 (rowM) [(0, 0, (x.toNat : Int))] rfl rfl rfl (by exact pka) (by rfl) (by rfl) (by intro _; rfl) (by (first | exact one_fS | exact one_fI | exact one_fB | exact one_fP | exact one_fIIS | exact one_fIIIS | exact one_fII | exact one_fSI | exact one_fIIU | exact one_fY | exact one_fBl | exact one_fT | exact one_fE | assumption)) rfl (by simp only [List.length_cons, List.length_nil]; omega) (by (unfold maxLen); simp only [List.length_cons, List.length_nil]; omega) | exact opr_append_lit (rowM) [(0, 0, (x.toNat : Int))] rfl rfl rfl (by exact pka) (by exact pka) (by rfl) (by rfl) (by first | rfl | omega) (by intro _; rfl) (by (first | exact one_fS | exact one_fI | exact one_fB | exact one_fP | exact one_fIIS | exact one_fIIIS | exact one_fII | exact one_fSI | exact one_fIIU | exact one_fY | exact one_fBl | exact one_fT | exact one_fE | assumption)) rfl (by simp only [List.length_cons, List.length_nil]; omega) (by (unfold maxLen); simp only [List.length_cons, List.length_nil]; omega)) ?_
        rintro _ _ ⟨q6, c6, rfl, rfl⟩
        (repeat' (first | (apply run_qg 1; (focus rfl); (focus exact wt); (focus rfl); (focus (exact qg1))) | (apply run_qg 2; (focus rfl); (focus exact wt); (focus rfl); (focus (first | exact qg2 | exact qs2))) | (apply run_qg 3; (focus rfl); (focus exact wt); (focus rfl); (focus (first | exact qg3 | exact qs3))) | (apply run_qg 4; (focus rfl); (focus exact wt); (focus rfl); (focus (first | exact qg4 | exact qs4))) | refine cod_region ?_ | refine run_nil ?_ | refine pst_then ?_ | refine pst_block ?_))
        rw [hsum]
        refine pst_again ((i + S i, q6, c6, out ++ [(0, 0, (x.toNat : Int))])) ?_ (FSub.of (by (try dsimp only); exact fsa)) (by (try dsimp only); exact hsa) ?_
        · exact hWn
        · dsimp only; omega
      · have hm : markF s S D i = ((S i : Int), (D i : Int), 0) := by unfold markF; rw [if_neg hs1]
        rw [hm] at hWn
        (repeat' (first | (apply run_qg 1; (focus rfl); (focus exact wt); (focus rfl); (focus (exact qg1))) | (apply run_qg 2; (focus rfl); (focus exact wt); (focus rfl); (focus (first | exact qg2 | exact qs2))) | (apply run_qg 3; (focus rfl); (focus exact wt); (focus rfl); (focus (first | exact qg3 | exact qs3))) | (apply run_qg 4; (focus rfl); (focus exact wt); (focus rfl); (focus (first | exact qg4 | exact qs4))) | (apply run_qg 6; (focus rfl); (focus exact wt); (focus rfl); (focus (first | exact qs6 | exact qg6 | exact q_max rfl rfl rfl | exact q_sliceData rfl rfl (by omega) | exact q_sliceDataN rfl rfl | exact q_unsafeStringN rfl rfl rfl | exact q_cap_slice rfl rfl))) | refine cod_seq ?_ | refine cod_region ?_ | refine run_nil ?_ | refine pst_then ?_ | (apply cod_cond_t; (focus rfl)) | (apply cod_cond_f; (focus rfl)) | refine cod_block ?_ | refine cod_skip ?_))
        (refine cod_drawn_ks (Hq := [_, _]) [2, 4] [] rfl (by kernel_rfl) (by simp only [List.length_cons, List.length_nil, Nat.reduceAdd]; rfl) ?_)
        (repeat' (first | (apply drnK_take 1; (focus rfl); (focus rfl); (focus exact wt); (focus (decide +kernel)); (focus exact hsq); (focus rfl); (focus (exact qg1))) | (apply drnK_take 2; (focus rfl); (focus rfl); (focus exact wt); (focus (decide +kernel)); (focus exact hsq); (focus rfl); (focus (first | exact qg2 | exact qs2))) | (apply drnK_take 3; (focus rfl); (focus rfl); (focus exact wt); (focus (decide +kernel)); (focus exact hsq); (focus rfl); (focus (first | exact qg3 | exact qs3))) | (apply drnK_take 5; (focus rfl); (focus rfl); (focus exact wt); (focus (decide +kernel)); (focus exact hsq); (focus rfl); (focus (exact qg5))) | (apply drnK_done; (focus (decide +kernel))) | (apply drnK_skip; (focus rfl)) | (apply drnK_wrap; (focus rfl))))
        (refine drnK_at 10 ?_; (first | refine drnK_ones _ (by rfl) (by rfl) (by kernel_rfl) wt (by rfl) (by exact opr_buildSlice rfl rfl rfl (by exact blda) rfl rfl (by decide) rfl) ?_ | refine drnK_onen _ (by rfl) (by rfl) (by kernel_rfl) wt (by exact opr_buildSlice rfl rfl rfl (by exact blda) rfl rfl (by decide) rfl) ?_); rintro _ _ ⟨q9, rfl, rfl⟩; refine ⟨(by first | exact fun h => absurd h (by decide) | exact fun _ => hsq), ?_⟩; (try dsimp only [List.cons_append, List.nil_append]))
        (refine drnK_at 11 ?_; (first | refine drnK_ones _ (by rfl) (by rfl) (by kernel_rfl) wt (by rfl) (by exact (by first | exact opr_append_lit0 (rowM) [((S i : Int), (D i : Int), 0)] rfl rfl rfl (by exact pka) (by rfl) (by rfl) (by intro _; rfl) (by (first | exact one_fS | exact one_fI | exact one_fB | exact one_fP | exact one_fIIS | exact one_fIIIS | exact one_fII | exact one_fSI | exact one_fIIU | exact one_fY | exact one_fBl | exact one_fT | exact one_fE | assumption)) rfl (by simp only [List.length_cons, List.length_nil]; omega) (by (unfold maxLen); simp only [List.length_cons, List.length_nil]; omega) | exact opr_append_lit (rowM) [((S i : Int), (D i : Int), 0)] rfl rfl rfl (by exact pka) (by exact pka) (by rfl) (by rfl) (by first | rfl | omega) (by intro _; rfl) (by (first | exact one_fS | exact one_fI | exact one_fB | exact one_fP | exact one_fIIS | exact one_fIIIS | exact one_fII | exact one_fSI | exact one_fIIU | exact one_fY | exact one_fBl | exact one_fT | exact one_fE | assumption)) rfl (by simp only [List.length_cons, List.length_nil]; omega) (by (unfold maxLen); simp only [List.length_cons, List.length_nil]; omega))) ?_ | refine drnK_onen _ (by rfl) (by rfl) (by kernel_rfl) wt (by exact (by first | exact opr_append_lit0 (rowM) [((S i : Int), (D i : Int), 0)] rfl rfl rfl (by exact pka) (by rfl) (by rfl) (by intro _; rfl) (by (first | exact one_fS | exact one_fI | exact one_fB | exact one_fP | exact one_fIIS | exact one_fIIIS | exact one_fII | exact one_fSI | exact one_fIIU | exact one_fY | exact one_fBl | exact one_fT | exact one_fE | assumption)) rfl (by simp only [List.length_cons, List.length_nil]; omega) (by (unfold maxLen); simp only [List.length_cons, List.length_nil]; omega) | exact opr_append_lit (rowM) [((S i : Int), (D i : Int), 0)] rfl rfl rfl (by exact pka) (by exact pka) (by rfl) (by rfl) (by first | rfl | omega) (by intro _; rfl) (by (first | exact one_fS | exact one_fI | exact one_fB | exact one_fP | exact one_fIIS | exact one_fIIIS | exact one_fII | exact one_fSI | exact one_fIIU | exact one_fY | exact one_fBl | exact one_fT | exact one_fE | assumption)) rfl (by simp only [List.length_cons, List.length_nil]; omega) (by (unfold maxLen); simp only [List.length_cons, List.length_nil]; omega))) ?_); rintro _ _ ⟨q6, c6, rfl, rfl⟩; refine ⟨(by first | exact fun h => absurd h (by decide) | exact fun _ => hsq), ?_⟩; (try dsimp only [List.cons_append, List.nil_append]))
        (repeat' (first | (apply run_qg 1; (focus rfl); (focus exact wt); (focus rfl); (focus (exact qg1))) | (apply run_qg 2; (focus rfl); (focus exact wt); (focus rfl); (focus (first | exact qg2 | exact qs2))) | (apply run_qg 3; (focus rfl); (focus exact wt); (focus rfl); (focus (first | exact qg3 | exact qs3))) | (apply run_qg 4; (focus rfl); (focus exact wt); (focus rfl); (focus (first | exact qg4 | exact qs4))) | refine cod_region ?_ | refine run_nil ?_ | refine pst_then ?_ | refine pst_block ?_ | (apply drnK_take 1; (focus rfl); (focus rfl); (focus exact wt); (focus (decide +kernel)); (focus exact hsq); (focus rfl); (focus (exact qg1))) | (apply drnK_end; (focus (decide +kernel)))))
        rw [hsum]
        refine pst_again ((i + S i, q6, c6, out ++ [((S i : Int), (D i : Int), 0)])) ?_ (FSub.of (by (try dsimp only); exact fsa)) (by (try dsimp only); exact hsa) ?_
        · exact hWn
        · dsimp only; omega
    · have hil : i = s.length := by omega
      rw [hil] at hW
      have hF := way_end (by omega) hL hB hW
      (repeat' (first | (apply run_qg 1; (focus rfl); (focus exact wt); (focus rfl); (focus (exact qg1))) | (apply run_qg 4; (focus rfl); (focus exact wt); (focus rfl); (focus (first | exact qg4 | exact qs4))) | (apply run_qg 6; (focus rfl); (focus exact wt); (focus rfl); (focus (first | exact qs6 | exact qg6 | exact q_max rfl rfl rfl | exact q_sliceData rfl rfl (by omega) | exact q_sliceDataN rfl rfl | exact q_unsafeStringN rfl rfl rfl | exact q_cap_slice rfl rfl))) | refine cod_seq ?_ | refine cod_region ?_ | refine run_nil ?_ | refine pst_then ?_ | (apply cod_cond_f; (focus rfl)) | refine cod_exit ?_ | refine cod_ret ?_ | refine pst_block_here ?_ | refine pst_then_exit ?_))
      exact pst_fin rfl (by exact resa) _ (⟨out, q5, c5, hF, rfl, rfl⟩) (by exact hsa)
  | succ i =>
    have hj : ((i + 1 : Nat) : Int) - 1 = (i : Int) := by omega
    rw [hj]
    have hi1 : (i : Int) + 1 = ((i + 1 : Nat) : Int) := by omega
    have gB : (rowN (N + 1) B)[i + 1]? = some ((B (i + 1) : Nat) : Int) := rowN_at _ (by omega)
    have gB0 : (rowN (N + 1) B)[i]? = some ((B i : Nat) : Int) := rowN_at _ (by omega)
    have gS0 : (rowN (N + 1) S)[i]? = some ((S i : Nat) : Int) := rowN_at _ (by omega)
    have gL : (rowN N L)[i]? = some ((L i : Nat) : Int) := rowN_at _ (by omega)
    have hb : ((B (i + 1) : Nat) : Int) + 1 = ((B (i + 1) + 1 : Nat) : Int) := by omega
    have hbN : B (i + 1) ≤ N := by
      rcases Nat.lt_or_ge (i + 1) s.length with h | h
      · have := (hB.2 (i + 1) (Nat.le_refl _) h).2.2.2.2; omega
      · have h9 : i + 1 = s.length := by omega
        rw [h9, hB.1]; omega
    have hBb : ∀ j, i < j → j ≤ N → B j ≤ N := fun j h1 h2 => by
      rcases Nat.lt_or_ge j s.length with h | h
      · have := (hB.2 j h1 h).2.2.2.2; omega
      · have h9 : j = s.length := by omega
        rw [h9, hB.1]; omega
    (repeat' (first | (apply run_qg 1; (focus rfl); (focus exact wt); (focus rfl); (focus (exact qg1))) | (apply run_qg 4; (focus rfl); (focus exact wt); (focus rfl); (focus (first | exact qg4 | exact qs4))) | refine cod_seq ?_ | refine cod_region ?_ | refine run_nil ?_ | refine pst_then ?_ | (apply cod_cond_t; (focus rfl)) | refine cod_block ?_ | refine cod_skip ?_))
    refine run_qs wt rfl (q_index_own (i := i + 1) rfl rfl rfl pka (by omega) (by omega)) ?_
    (repeat' (first | (apply run_qg 2; (focus rfl); (focus exact wt); (focus rfl); (focus (first | exact qg2 | exact qs2))) | (apply run_qg 3; (focus rfl); (focus exact wt); (focus rfl); (focus (first | exact qg3 | exact qs3))) | (apply run_qg 4; (focus rfl); (focus exact wt); (focus rfl); (focus (first | exact qg4 | exact qs4)))))
    rw [hb]
    (refine run_on wt (opr_store_ownm (f := fI) (q' := ((B (i + 1) + 1 : Nat) : Int)) rfl rfl rfl rfl (by exact pka) rfl (by omega) (by intro _; rfl) (by assumption) rfl rfl (by rfl)) ?_; rintro _ _ ⟨rfl, rfl⟩)
    rw [rowN_set _ _ (by omega)]
    (repeat' (first | (apply run_qg 3; (focus rfl); (focus exact wt); (focus rfl); (focus (first | exact qg3 | exact qs3)))))
    (refine run_on wt (opr_store_ownm (f := fI) (q' := ((1 : Nat) : Int)) rfl rfl rfl rfl (by exact pka) rfl (by omega) (by intro _; rfl) (by assumption) rfl rfl (by rfl)) ?_; rintro _ _ ⟨rfl, rfl⟩)
    rw [rowN_set _ _ (by omega)]
    (repeat' (first | (apply run_qg 1; (focus rfl); (focus exact wt); (focus rfl); (focus (exact qg1))) | refine cod_seq ?_ | refine cod_region ?_ | refine run_nil ?_ | refine pst_then ?_ | refine cod_block ?_))
    (refine cod_loop_rw (σ := Nat × Nat × Nat) (fun x => (3 ≤ x.1 ∧ x.1 ≤ 1000) ∧ BestAt L B i x.1 x.2.1 x.2.2) (fun x => [(9, .int .i64 (x.1 : Int))]) (fun x => [own (.slice q3 (N + 1) (N + 1)) 3 1 (N + 1) (flat fI (rowN (N + 1) (upd1 B i x.2.1))), own (.slice q4 (N + 1) (N + 1)) 3 1 (N + 1) (flat fI (rowN (N + 1) (upd1 S i x.2.2)))]) _ (fun x => L i + 1 - x.1) ((3, B (i + 1) + 1, 1)) (by exact ⟨⟨Nat.le_refl 3, show 3 ≤ 1000 by decide⟩, best_nil L B i⟩) (by exact fsa) (by (first | exact HSub.of_picks_rest (by exact pca))) (fun ⟨n, b, st⟩ ⟨⟨hn3, hn1000⟩, hbe⟩ => ?_); dsimp only [List.cons_append, List.nil_append])
    dsimp only at hn3 hn1000 hbe ⊢
    rcases Nat.lt_or_ge (L i) n with hlt | hge
    · (repeat' (first | (apply run_qg 1; (focus rfl); (focus exact wt); (focus rfl); (focus (exact qg1))) | (apply run_qg 2; (focus rfl); (focus exact wt); (focus rfl); (focus (first | exact qg2 | exact qs2))) | (apply run_qg 3; (focus rfl); (focus exact wt); (focus rfl); (focus (first | exact qg3 | exact qs3))) | (apply run_qg 4; (focus rfl); (focus exact wt); (focus rfl); (focus (first | exact qg4 | exact qs4))) | refine cod_seq ?_ | refine cod_region ?_ | refine run_nil ?_ | refine pst_then ?_ | (apply cod_cond_f; (focus rfl)) | refine cod_exit ?_ | refine pst_block_here ?_ | refine pst_then_exit ?_ | refine pst_block ?_))
      refine pst_again ((i, upd1 B i b, upd1 S i st)) ?_ (FSub.of (by (try dsimp only); exact fsa)) (by (try dsimp only); exact hsa) ?_
      · exact ⟨by omega, dp_next hL (by omega) hB hbe hlt⟩
      · dsimp only; omega
    · have hLi := hLN i (by omega)
      have gBn : (rowN (N + 1) (upd1 B i b))[i + n]? = some ((B (i + n) : Nat) : Int) := by rw [rowN_at _ (by omega), upd1_ne _ _ (by omega)]
      have gBi : (rowN (N + 1) (upd1 B i b))[i]? = some (b : Int) := by rw [rowN_at _ (by omega), upd1_at]
      have gSi : (rowN (N + 1) (upd1 S i st))[i]? = some (st : Int) := by rw [rowN_at _ (by omega), upd1_at]
      have hin : (i : Int) + (n : Int) = ((i + n : Nat) : Int) := by omega
      have hbn : ((B (i + n) : Nat) : Int) + 1 = ((B (i + n) + 1 : Nat) : Int) := by omega
      have hBn := hBb (i + n) (by omega) (by omega)
      have hbb : b ≤ N + 1 := by have := hbe.2.2.1; omega
      by_cases hle : B (i + n) + 1 ≤ b
      · (repeat' (first | (apply run_qg 1; (focus rfl); (focus exact wt); (focus rfl); (focus (exact qg1))) | (apply run_qg 2; (focus rfl); (focus exact wt); (focus rfl); (focus (first | exact qg2 | exact qs2))) | (apply run_qg 3; (focus rfl); (focus exact wt); (focus rfl); (focus (first | exact qg3 | exact qs3))) | (apply run_qg 4; (focus rfl); (focus exact wt); (focus rfl); (focus (first | exact qg4 | exact qs4))) | refine cod_seq ?_ | refine cod_region ?_ | refine run_nil ?_ | refine pst_then ?_ | (apply cod_cond_t; (focus rfl)) | refine cod_block ?_ | refine cod_skip ?_ | (apply cod_drawn_k; (focus kernel_rfl); (focus (simp only [List.length_cons, List.length_nil, Nat.reduceAdd]; rfl))) | (apply drnK_take 1; (focus rfl); (focus rfl); (focus exact wt); (focus (decide +kernel)); (focus exact hsq); (focus rfl); (focus (exact qg1))) | (apply drnK_take 2; (focus rfl); (focus rfl); (focus exact wt); (focus (decide +kernel)); (focus exact hsq); (focus rfl); (focus (first | exact qg2 | exact qs2))) | (apply drnK_take 3; (focus rfl); (focus rfl); (focus exact wt); (focus (decide +kernel)); (focus exact hsq); (focus rfl); (focus (first | exact qg3 | exact qs3))) | (apply drnK_take 4; (focus rfl); (focus rfl); (focus exact wt); (focus (decide +kernel)); (focus exact hsq); (focus rfl); (focus (first | exact qg4 | exact qs4))) | (apply drnK_end; (focus (decide +kernel)))))
        rw [hbn]
        (refine run_on wt (opr_store_ownm (f := fI) (q' := ((B (i + n) + 1 : Nat) : Int)) rfl rfl rfl rfl (by exact pka) rfl (by omega) (by intro _; rfl) (by assumption) rfl rfl (by rfl)) ?_; rintro _ _ ⟨rfl, rfl⟩)
        rw [rowN_set _ _ (by omega), upd1_upd1]
        (repeat' (first | (apply run_qg 3; (focus rfl); (focus exact wt); (focus rfl); (focus (first | exact qg3 | exact qs3)))))
        (refine run_on wt (opr_store_ownm (f := fI) (q' := (n : Int)) rfl rfl rfl rfl (by exact pka) rfl (by omega) (by intro _; rfl) (by assumption) rfl rfl (by rfl)) ?_; rintro _ _ ⟨rfl, rfl⟩)
        rw [rowN_set _ _ (by omega), upd1_upd1]
        (repeat' (first | (apply run_qg 1; (focus rfl); (focus exact wt); (focus rfl); (focus (exact qg1))) | (apply run_qg 4; (focus rfl); (focus exact wt); (focus rfl); (focus (first | exact qg4 | exact qs4))) | refine cod_region ?_ | refine run_nil ?_ | refine pst_then ?_ | refine pst_block ?_))
        refine pst_again ((n + 1, B (i + n) + 1, n)) ?_ (FSub.of (by (try dsimp only); exact fsa)) (by (try dsimp only); exact hsa) ?_
        · exact ⟨by omega, best_new hbe hn3 hge hle⟩
        · dsimp only; omega
      · have hlt9 : b < B (i + n) + 1 := by omega
        (repeat' (first | (apply run_qg 1; (focus rfl); (focus exact wt); (focus rfl); (focus (exact qg1))) | (apply run_qg 2; (focus rfl); (focus exact wt); (focus rfl); (focus (first | exact qg2 | exact qs2))) | (apply run_qg 3; (focus rfl); (focus exact wt); (focus rfl); (focus (first | exact qg3 | exact qs3))) | (apply run_qg 4; (focus rfl); (focus exact wt); (focus rfl); (focus (first | exact qg4 | exact qs4))) | refine cod_seq ?_ | refine cod_region ?_ | refine run_nil ?_ | refine pst_then ?_ | (apply cod_cond_t; (focus rfl)) | (apply cod_cond_f; (focus rfl)) | refine cod_block ?_ | refine cod_skip ?_ | refine pst_block ?_ | (apply cod_drawn_k; (focus kernel_rfl); (focus (simp only [List.length_cons, List.length_nil, Nat.reduceAdd]; rfl))) | (apply drnK_take 1; (focus rfl); (focus rfl); (focus exact wt); (focus (decide +kernel)); (focus exact hsq); (focus rfl); (focus (exact qg1))) | (apply drnK_take 2; (focus rfl); (focus rfl); (focus exact wt); (focus (decide +kernel)); (focus exact hsq); (focus rfl); (focus (first | exact qg2 | exact qs2))) | (apply drnK_take 3; (focus rfl); (focus rfl); (focus exact wt); (focus (decide +kernel)); (focus exact hsq); (focus rfl); (focus (first | exact qg3 | exact qs3))) | (apply drnK_take 4; (focus rfl); (focus rfl); (focus exact wt); (focus (decide +kernel)); (focus exact hsq); (focus rfl); (focus (first | exact qg4 | exact qs4))) | (apply drnK_end; (focus (decide +kernel)))))
        refine pst_again ((n + 1, b, st)) ?_ (FSub.of (by (try dsimp only); exact fsa)) (by (try dsimp only); exact hsa) ?_
        · exact ⟨by omega, best_old hbe hlt9⟩
        · dsimp only; omega
end Go.Proofs.Ytppnaofebkpbkaa.lz
/-
  lz: the contracts as the laws use them.
-/
namespace Go.Proofs.Ytppnaofebkpbkaa.lz
open Go.RowKit kit sl
set_option linter.unusedVariables false
theorem rowM_eq : rowM = fIIU := by
  funext p
  rfl
theorem find_ct (s : List UInt8) (hs : s.length ≤ 512) :
    Ct Try.prog 38 [.string (str s)] [] fun v H' => ∃ out q c, Found s out ∧ v = .tuple #[.slice q out.length c, .int .i64 0] ∧ H' = [own (.slice q out.length c) 70 3 out.length (flat fIIU out)] := by
  rw [← rowM_eq]
  exact find_any s hs
theorem expand_ct (q : Option Addr) (c : Nat) (xs : List (Int × Int × Int)) (hg : ∀ p ∈ xs, goodM p) (hn : xs.length ≤ 100000000000000000) {r : List UInt8} {e : Nat} (h : expB xs = (r, e)) :
    Ct Try.prog 31 [.slice q xs.length c] [sl 3 (.slice q xs.length c) (xs.map fIIU)] fun v H' => v = .tuple #[.string (str r), .int .i64 (e : Int)] ∧ H' = [] :=
  ct_of_calls fun w hw => (expand_any _ xs w (hw.head : SliceAt w 3 _ (xs.map fIIU)) hg hn).mono fun e w' ⟨h1, h2⟩ => ⟨by rw [h1, h], h2⟩
end Go.Proofs.Ytppnaofebkpbkaa.lz
