/-
  lz.Check and lz.Expand: what they answer, and the walks.
-/
import Derived.Test.YtnejhldagkennaaBytesOwn
import Derived.Test.YtnejhldagkennaaPut
namespace Go.Proofs.Ytnejhldagkennaa.lz
open Go.RowKit kit
set_option linter.unusedVariables false

/-- what is wrong with a mark (length, distance, byte) -/
def checkE (m : Int × Int × Int) : Nat :=
  if m.1 = 0 then (if m.2.1 = 0 then 0 else 4) else if m.1 < 3 ∨ 66 < m.1 ∨ m.2.1 < 1 ∨ m.2.2 ≠ 0 then 4 else 0

def mark (m : Int × Int × Int) : Value := .agg #[.int .i64 m.1, .int .i64 m.2.1, .int .u8 m.2.2]
def rowM (m : Int × Int × Int) : List Value := [.int .i64 m.1, .int .i64 m.2.1, .int .u8 m.2.2]
def goodM (m : Int × Int × Int) : Prop := (Lit.int .i64 m.1).wf = true ∧ (Lit.int .i64 m.2.1).wf = true ∧ (Lit.int .u8 m.2.2).wf = true

set_option maxRecDepth 100000 in
theorem check_any (m : Int × Int × Int) (W : World) :
    Calls Try.prog 34 #[mark m] W fun e w' => e = .returned (.int .i64 (checkE m : Int)) ∧ Below W.heap.size W w' := by
  obtain ⟨L, D, B⟩ := m
  unfold mark checkE
  simp only
  go_enter Try.func34, Try.ntmps34
  by_cases h0 : L = 0
  · subst h0
    by_cases hD : D = 0
    · subst hD
      go_wp2_with (fail)
      go_ret
      exact ⟨rfl, (Below.refl _ _).alloc (Nat.le_refl _) _⟩
    · have hDb : (D == 0) = false := by simpa using hD
      go_wp2_with (fail)
      go_ret
      exact ⟨by simp [*], (Below.refl _ _).alloc (Nat.le_refl _) _⟩
  · have hLb : (L == 0) = false := by simpa using h0
    by_cases h1 : L < 3
    · go_wp2_with (fail)
      go_ret
      exact ⟨by simp [*], (Below.refl _ _).alloc (Nat.le_refl _) _⟩
    · by_cases h2 : 66 < L
      · go_wp2_with (fail)
        go_ret
        exact ⟨by simp [*], (Below.refl _ _).alloc (Nat.le_refl _) _⟩
      · by_cases h3 : D < 1
        · go_wp2_with (fail)
          go_ret
          exact ⟨by simp [*], (Below.refl _ _).alloc (Nat.le_refl _) _⟩
        · by_cases h4 : B = 0
          · subst h4
            go_wp2_with (fail)
            go_ret
            exact ⟨by simp [*], (Below.refl _ _).alloc (Nat.le_refl _) _⟩
          · have hBb : (B == 0) = false := by simpa using h4
            go_wp2_with (fail)
            go_ret
            exact ⟨by simp [*], (Below.refl _ _).alloc (Nat.le_refl _) _⟩

/-- 'n' bytes copied from 'd' back -/
def copyF : Nat → Nat → List UInt8 → List UInt8
  | 0, _, out => out
  | n + 1, d, out => copyF n d (out ++ [out.getD (out.length - d) 0])
theorem copyF_len : ∀ (n d : Nat) (out : List UInt8), (copyF n d out).length = out.length + n := by
  intro n
  induction n with
  | zero => intro d out; rfl
  | succ n ih => intro d out; rw [copyF, ih]; simp; omega

def stepE (out : List UInt8) (m : Int × Int × Int) : Nat :=
  if checkE m ≠ 0 then checkE m else if (out.length : Int) < m.2.1 then 8 else if 512 < (out.length : Int) + max 1 m.1 then 2 else 0
def stepO (out : List UInt8) (m : Int × Int × Int) : List UInt8 :=
  copyF m.1.toNat m.2.1.toNat (if m.1 = 0 then out ++ [UInt8.ofNat m.2.2.toNat] else out)
def expF : List (Int × Int × Int) → List UInt8 → List UInt8 × Nat
  | [], out => (out, 0)
  | m :: l, out => if stepE out m = 0 then expF l (stepO out m) else ([], stepE out m)
def expB (l : List (Int × Int × Int)) : List UInt8 × Nat := expF l []


theorem expF_bad {xs : List (Int × Int × Int)} {l : List UInt8} {k e : Nat} {m : Int × Int × Int} (h : expB xs = expF (xs.drop k) l) (hp : xs[k]? = some m) (he : stepE l m = e) (h0 : e ≠ 0) : expB xs = ([], e) := by
  rw [h, List.drop_eq_getElem_cons (List.getElem?_eq_some_iff.1 hp).1, (List.getElem?_eq_some_iff.1 hp).2, expF, if_neg (by rw [he]; exact h0), he]
theorem expF_next {xs : List (Int × Int × Int)} {l : List UInt8} {k : Nat} {m : Int × Int × Int} (h : expB xs = expF (xs.drop k) l) (hp : xs[k]? = some m) (he : stepE l m = 0) : expB xs = expF (xs.drop (k + 1)) (stepO l m) := by
  rw [h, List.drop_eq_getElem_cons (List.getElem?_eq_some_iff.1 hp).1, (List.getElem?_eq_some_iff.1 hp).2, expF, if_pos he]

/-- a block of another type is not the row's own -/
theorem own_type {w : World} {B e n G f : Nat} {v : Value} {xs : List Value} {cs : Array Value} {fr : Nat × Nat} (h : w.ownsRow B e 1 v n xs) (hg : w.heap[G]? = some (.cells cs f fr)) (hne : f ≠ e) : some G ≠ v.ownBlock := by
  rcases h.2 with ⟨rfl, _⟩ | ⟨g, cap, cur, rfl, hb, hgg, _⟩
  · simp [Value.ownBlock]
  · simp only [Value.ownBlock]
    intro e'
    have e2 : G = g := Option.some.inj e'
    subst e2
    rw [hg] at hgg
    simp at hgg
    exact hne hgg.2.1
theorem own_byte {w : World} {B e n : Nat} {v : Value} {l : List UInt8} (h : w.ownsRow B e 1 v n (byteCells l)) {j : Nat} (hj : j < l.length) : ∃ g cap, v = .slice (some ⟨g, 0, none⟩) n cap ∧ w.cell? ⟨g, j, none⟩ = some (.int .u8 (l[j].toNat : Int)) := by
  rcases h.2 with ⟨rfl, h0⟩ | ⟨g, cap, cur, rfl, _⟩
  · have := h.1; simp [byteCells] at this; omega
  · refine ⟨g, cap, rfl, ?_⟩
    have := h.cells (g := g) rfl j (.int .u8 (l[j].toNat : Int)) (by simp [byteCells, hj])
    have ea : (⟨g, 0, none⟩ : Addr).add j = ⟨g, j, none⟩ := by unfold Addr.add; split <;> simp_all
    rwa [ea] at this

theorem checkE_two (m : Int × Int × Int) : checkE m = 4 ∨ checkE m = 0 ∧ (m.1 = 0 ∧ m.2.1 = 0 ∨ 3 ≤ m.1 ∧ m.1 ≤ 66 ∧ 1 ≤ m.2.1 ∧ m.2.2 = 0) := by
  unfold checkE
  split
  · split
    · exact .inr ⟨rfl, .inl ⟨by assumption, by assumption⟩⟩
    · exact .inl rfl
  · split
    · exact .inl rfl
    · exact .inr ⟨rfl, .inr (by omega)⟩

attribute [local go_sem] kit.ite_max
set_option maxHeartbeats 1000000 in
set_option maxRecDepth 100000 in
theorem expand_any (v : Value) (xs : List (Int × Int × Int)) (W : World) (hs : SliceAt W 3 v (xs.map rowM)) (hg : ∀ p ∈ xs, goodM p) (hn : xs.length ≤ 100000000000000000) :
    Calls Try.prog 13 #[v] W fun e w' => e = .returned (.tuple #[.string ⟨(expB xs).1.toArray⟩, .int .i64 ((expB xs).2 : Int)]) ∧ Below W.heap.size W w' := by
  obtain ⟨q, cap, b, off, rfl, hq, hc⟩ := hs.view
  simp only [List.length_map] at hq ⊢
  have HQ := Lib.hid hq
  have HC : Hid (∀ k p, xs[k]? = some p → W.cell? ⟨b, off + k * 3, none⟩ = some (.int .i64 p.1) ∧ W.cell? ⟨b, off + k * 3 + 1, none⟩ = some (.int .i64 p.2.1) ∧ W.cell? ⟨b, off + k * 3 + 2, none⟩ = some (.int .u8 p.2.2)) := fun k p hx => by
    have h := hc k (rowM p) (by rw [List.getElem?_map, hx]; rfl)
    exact ⟨h 0 _ rfl, h 1 _ rfl, h 2 _ rfl⟩
  clear hs hq hc
  go_enter Try.func13, Try.ntmps13
  go_wp2_with (fail)
  go_loopw [4, 10] (fun o y wr => ∃ (k : Nat) (l : List UInt8), k ≤ xs.length ∧ y = .int .i64 k ∧ wr.ownsRow W.heap.size 5 1 o l.length (byteCells l) ∧ l.length ≤ 512 ∧ Hid (expB xs = expF (xs.drop k) l) ∧ Below W.heap.size W wr) (fun _ y _ => xs.length - (intOf y).toNat)
  case atStart => exact ⟨0, [], Nat.zero_le _, rfl, World.ownsRow_nil _ _ _ _, by simp, rfl, Below.refl _ _⟩
  case round =>
    obtain ⟨k, l, hk, rfl, hown, hl, hexp, hb⟩ := hrel
    by_cases hlt : k < xs.length
    · obtain ⟨rfl, hblk⟩ := HQ.out k hlt
      obtain ⟨⟨L, D, B⟩, hp⟩ : ∃ p, xs[k]? = some p := ⟨_, List.getElem?_eq_getElem hlt⟩
      have hc := HC.out k _ hp
      have hc0 : wr.cell? ⟨b, off + k * 3, none⟩ = some (.int .i64 L) := (hb.cell (p := ⟨b, off + k * 3, none⟩) hblk).trans hc.1
      have hc1 : wr.cell? ⟨b, off + k * 3 + 1, none⟩ = some (.int .i64 D) := (hb.cell (p := ⟨b, off + k * 3 + 1, none⟩) hblk).trans hc.2.1
      have hc2 : wr.cell? ⟨b, off + k * 3 + 2, none⟩ = some (.int .u8 B) := (hb.cell (p := ⟨b, off + k * 3 + 2, none⟩) hblk).trans hc.2.2
      have hltI : (k : Int) < (xs.length : Int) := by omega
      have hw := hg _ (List.mem_of_getElem? hp)
      have hL := i64_bd hw.1
      have hD := i64_bd hw.2.1
      obtain ⟨B, rfl, hB⟩ := u8_nat hw.2.2
      have HP := Lib.hid hp
      have hsz : W.heap.size ≤ wr.heap.size := hb.size
      clear hc hp hw
      go_wp2_with (fail)
      refine (check_any (L, D, (B : Int)) _).mono ?_
      rintro e W1 ⟨rfl, hb1⟩
      have hbox : W1.heap[wr.heap.size]? = some (.cells #[.int .i64 L, .int .i64 D, .int .u8 (B : Int)] 31 (0, 0)) := (hb1.block _ (by simp)).trans (heap_alloc_new _ _)
      have hown1 := ownsRow_below (hown.alloc _) hb1
      have hbb := (hb.alloc hsz (Obj.cells #[.int .i64 L, .int .i64 D, .int .u8 (B : Int)] 31)).trans (hb1.mono (Nat.le_trans hsz (by simp)))
      clear hown hb hb1 hc0 hc1 hc2
      rcases checkE_two (L, D, (B : Int)) with he | ⟨he, hform⟩
      · have HE := Lib.hid (expF_bad hexp.out HP.out (e := 4) (by rw [stepE, he]; rfl) (by decide))
        rw [he]
        go_wp2_with (fail)
        go_ret2
        exact ⟨by rw [HE.out]; rfl, hbb⟩
      · have HE0 : Hid (∀ e, (if (l.length : Int) < D then 8 else if 512 < (l.length : Int) + max 1 L then 2 else 0) = e → stepE l (L, D, (B : Int)) = e) := fun e h => by rw [stepE, he]; exact h
        rw [he]
        have HG := Lib.hid hbox
        have g0 : W1.cell? ⟨wr.heap.size, 0, none⟩ = some (.int .i64 L) := by rw [cell_of_row _ _ _ _ _ _ hbox]; rfl
        have g1 : W1.cell? ⟨wr.heap.size, 1, none⟩ = some (.int .i64 D) := by rw [cell_of_row _ _ _ _ _ _ hbox]; rfl
        have g2 : W1.cell? ⟨wr.heap.size, 2, none⟩ = some (.int .u8 (B : Int)) := by rw [cell_of_row _ _ _ _ _ _ hbox]; rfl
        clear hbox he
        generalize wr.heap.size = G at HG g0 g1 g2 hsz ⊢
        obtain ⟨q, ca, rfl⟩ : ∃ q ca, u4 = .slice q l.length ca := by
          rcases hown1.2 with ⟨rfl, h0⟩ | ⟨g, cap, cur, rfl, _⟩
          · rw [h0]; exact ⟨_, _, rfl⟩
          · exact ⟨_, _, rfl⟩
        rcases hform with ⟨h0, hd0⟩ | ⟨h3, h66, hd1, hb0⟩
        · simp only at h0 hd0
          subst h0 hd0
          by_cases hbig : (512 : Int) < (l.length : Int) + 1
          · have HE := Lib.hid (expF_bad hexp.out HP.out (HE0.out 2 (by rw [if_neg (by omega), if_pos (by omega)])) (by decide))
            clear HE0
            go_wp2_with (fail)
            go_ret2
            exact ⟨by rw [HE.out]; rfl, hbb⟩
          · have HN := Lib.hid (expF_next hexp.out HP.out (HE0.out 0 (by rw [if_neg (by omega), if_neg (by omega)])))
            have hsz1 := hbb.size
            have hne := own_type hown1 HG.out (by decide)
            have hlt2 := (Array.getElem?_eq_some_iff.1 HG.out).1
            clear HE0
            go_wp2_with (at_builtin; refine app1 put.tBytes rfl (.tmp 34) (.tmp 37) rfl _ _ l.length (byteCells l) rfl rfl hown1 rfl ?c3 ?c4 hbb hsz1 ?_)
            case c3 => omega
            case c4 => unfold maxLen; omega
            intro v' W2 hown2 hgr hb2 hsz2
            have g0' : W2.cell? ⟨G, 0, none⟩ = some (.int .i64 0) := hgr.cell g0 hne
            have hv : (B : Int) = ((UInt8.ofNat B).toNat : Int) := by simp; omega
            rw [byteCells_snoc l (UInt8.ofNat B) _ hv] at hown2
            have HN2 : Hid (expB xs = expF (xs.drop (k + 1)) (l ++ [UInt8.ofNat B])) := HN.out
            have hl2 : (l ++ [UInt8.ofNat B]).length ≤ 512 := by simp; omega
            rw [show l.length + 1 = (l ++ [UInt8.ofNat B]).length from by simp] at hown2
            generalize l ++ [UInt8.ofNat B] = l2 at hown2 HN2 hl2
            clear hown1 hgr g0 g1 g2 HN hv hne hexp HP HG
            go_wp2_with (fail)
            go_loopw [4, 41] (fun o y wx => o = v' ∧ y = .int .i64 0 ∧ W2 = wx) (fun _ _ _ => 0)
            case atStart => exact ⟨rfl, rfl, rfl⟩
            case round =>
              obtain ⟨rfl, rfl, rfl⟩ := hrel
              go_wp2_with (fail)
              exact ⟨⟨k + 1, l2, by omega, rfl, hown2, hl2, HN2, hb2⟩, by show xs.length - (((k : Int) + 1).toNat) < xs.length - ((k : Int).toNat); omega⟩
        · simp only at h3 h66 hd1 hb0
          obtain ⟨n, rfl⟩ : ∃ n : Nat, L = (n : Int) := ⟨L.toNat, by omega⟩
          obtain ⟨d, rfl⟩ : ∃ d : Nat, D = (d : Int) := ⟨D.toNat, by omega⟩
          by_cases hdl : (l.length : Int) < (d : Int)
          · have HE := Lib.hid (expF_bad hexp.out HP.out (HE0.out 8 (by rw [if_pos hdl])) (by decide))
            clear HE0
            go_wp2_with (fail)
            go_ret2
            exact ⟨by rw [HE.out]; rfl, hbb⟩
          · by_cases hbig : (512 : Int) < (l.length : Int) + (n : Int)
            · have HE := Lib.hid (expF_bad hexp.out HP.out (HE0.out 2 (by rw [if_neg hdl, if_pos (by omega)])) (by decide))
              clear HE0
              have hmax : max (1 : Int) (n : Int) = (n : Int) := by omega
              go_wp2_with (fail)
              go_ret2
              exact ⟨by rw [HE.out]; rfl, hbb⟩
            · have HN := Lib.hid (expF_next hexp.out HP.out (HE0.out 0 (by rw [if_neg hdl, if_neg (by omega)])))
              have hso : stepO l ((n : Int), (d : Int), (B : Int)) = copyF n d l := by
                unfold stepO
                rw [if_neg (by simp only; omega)]
                rfl
              rw [hso] at HN
              clear HE0 hexp HP hso
              have hmax : max (1 : Int) (n : Int) = (n : Int) := by omega
              have hn0 : ((n : Int) == 0) = false := by simp; omega
              have hd1' : decide (l.length < d) = false := decide_eq_false (by omega)
              have hd2' : decide ((512 : Int) < (l.length : Int) + (n : Int)) = false := decide_eq_false hbig
              have hsz1 := hbb.size
              go_wp2_with (fail)
              go_loopw [4, 41] (fun o y wx => ∃ (j : Nat) (l2 : List UInt8), j ≤ n ∧ y = .int .i64 j ∧ wx.ownsRow W.heap.size 5 1 o l2.length (byteCells l2) ∧ l2.length = l.length + j ∧ Hid (copyF (n - j) d l2 = copyF n d l) ∧ Hid (wx.heap[G]? = some (.cells #[.int .i64 (n : Int), .int .i64 (d : Int), .int .u8 (B : Int)] 31 (0, 0))) ∧ Below W.heap.size W wx) (fun _ y _ => n - (intOf y).toNat)
              case atStart => exact ⟨0, l, Nat.zero_le _, rfl, hown1, rfl, rfl, HG, hbb⟩
              case round =>
                obtain ⟨j, l2, hj, rfl, hown2, hl2, hcp, HG2, hb2⟩ := hrel
                by_cases hjn : j < n
                · have hjI : (j : Int) < (n : Int) := by omega
                  have g1' : wr.cell? ⟨G, 1, none⟩ = some (.int .i64 (d : Int)) := by rw [cell_of_row _ _ _ _ _ _ HG2.out]; rfl
                  obtain ⟨i, hi⟩ : ∃ i, i = l2.length - d := ⟨_, rfl⟩
                  obtain ⟨g, cap2, rfl, hcl⟩ := own_byte hown2 (j := i) (by omega)
                  have hx : (l2.length : Int) - (d : Int) = (i : Int) := by omega
                  have hil : (i : Int) < (l2.length : Int) := by omega
                  have hne := own_type hown2 HG2.out (by decide)
                  have hcp2 : Hid (copyF (n - (j + 1)) d (l2 ++ [l2[i]'(by omega)]) = copyF n d l) := by
                    have h := hcp.out
                    rw [show n - j = (n - (j + 1)) + 1 from by omega, copyF, ← hi] at h
                    rw [List.getD_eq_getElem?_getD, List.getElem?_eq_getElem (by omega)] at h
                    exact h
                  have HI := Lib.hid hi
                  have hl512 : l2.length < 512 := by omega
                  generalize l2[i]'(by omega) = c at hcp2 hcl
                  have hsz2 := hb2.size
                  have HL2 := Lib.hid hl2
                  clear hcp hi hl2
                  go_wp2_with (at_builtin; refine app1 put.tBytes rfl (.tmp 43) (.tmp 52) rfl _ _ l2.length (byteCells l2) rfl rfl hown2 rfl ?c3 ?c4 hb2 hsz2 ?_)
                  case c3 => omega
                  case c4 => unfold maxLen; omega
                  intro v' W2 hown3 hgr hb3 _
                  have HG3 := Lib.hid ((hgr.block G (Array.getElem?_eq_some_iff.1 HG2.out).1 hne).trans HG2.out)
                  rw [byteCells_snoc l2 c _ rfl, show l2.length + 1 = (l2 ++ [c]).length from by simp] at hown3
                  have hl3 : (l2 ++ [c]).length = l.length + (j + 1) := by simp; have := HL2.out; omega
                  generalize l2 ++ [c] = l3 at hown3 hl3 hcp2
                  clear hown2 hgr hne
                  go_wp2_with (fail)
                  go_round
                  case rel => exact ⟨j + 1, l3, by omega, rfl, hown3, hl3, hcp2, HG3, hb3⟩
                  case measure => show n - (((j : Int) + 1).toNat) < n - ((j : Int).toNat); omega
                · have hje : j = n := by omega
                  subst hje
                  rw [Nat.sub_self] at hcp
                  have hcp2 : l2 = copyF j d l := hcp.out
                  rw [← hcp2] at HN
                  clear hcp hcp2
                  go_wp2_with (fail)
                  exact ⟨⟨k + 1, l2, by omega, rfl, hown2, by omega, HN, hb2⟩, by show xs.length - (((k : Int) + 1).toNat) < xs.length - ((k : Int).toNat); omega⟩
    · have hke : k = xs.length := by omega
      subst hke
      have hE : expB xs = (l, 0) := by rw [hexp.out, List.drop_length]; rfl
      have HE := Lib.hid hE
      clear hE
      have hst := string_of_own (src := 66) (dst := 9) Try.underlying66 Try.underlying5 Try.underlying9 hown
      go_wp2_with (fail)
      go_ret2
      exact ⟨by rw [HE.out]; rfl, hb⟩
end Go.Proofs.Ytnejhldagkennaa.lz
