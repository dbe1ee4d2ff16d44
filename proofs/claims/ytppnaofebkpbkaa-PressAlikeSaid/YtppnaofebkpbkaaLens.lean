/-
  lens.Fill and lens.Canon: what they answer, and the walks.
-/
import Derived.Test.YtppnaofebkpbkaaMore
import Derived.Test.YtppnaofebkpbkaaRows
import Derived.Deep.OwnRows
namespace Go.Proofs.Ytppnaofebkpbkaa.lens
open Go.RowKit kit
set_option linter.unusedVariables false

def rowI (w : Int) : List Value := [Value.int .i64 w]
def wt (x : Int) : Nat := if 0 < x then 2 ^ (15 - x.toNat) else 0
def fillN : List Int → Nat
  | [] => 0
  | x :: l => wt x + fillN l
def badX : List Int → Bool
  | [] => false
  | x :: l => if x < 0 ∨ 15 < x then true else badX l
def lensE (l : List Int) : Nat := if 320 < l.length then 2 else if badX l = true then 1 else 0
def canonE (l : List Int) : Nat := if lensE l ≠ 0 then lensE l else if 32768 < fillN l then 6 else 0

theorem fillN_app (a b : List Int) : fillN (a ++ b) = fillN a + fillN b := by
  induction a with
  | nil => simp [fillN]
  | cons x a ih => rw [List.cons_append, fillN, fillN, ih, Nat.add_assoc]
theorem fillN_next {l : List Int} {k : Nat} {x : Int} (hp : l[k]? = some x) : fillN (l.take (k + 1)) = fillN (l.take k) + wt x := by
  rw [take_one hp, fillN_app]; rfl
theorem wt_le (x : Int) : wt x ≤ 16384 := by
  unfold wt
  split
  · rename_i h
    have h1 : 15 - x.toNat ≤ 14 := by omega
    exact Nat.pow_le_pow_right (n := 2) (by decide) h1
  · omega
theorem fillN_le (l : List Int) : fillN l ≤ 16384 * l.length := by
  induction l with
  | nil => simp [fillN]
  | cons x l ih => rw [fillN, List.length_cons]; have := wt_le x; omega
theorem badX_app (a b : List Int) : badX (a ++ b) = (badX a || badX b) := by
  induction a with
  | nil => simp [badX]
  | cons x a ih =>
    rw [List.cons_append, badX, badX, ih]
    split <;> simp
theorem badX_next {l : List Int} {k : Nat} {w : Int} (hp : l[k]? = some w) (h0 : badX (l.take k) = false) (hw : ¬ (w < 0 ∨ 15 < w)) : badX (l.take (k + 1)) = false := by
  rw [take_one hp, badX_app, h0, badX, if_neg hw]; rfl
theorem badX_at {l : List Int} {k : Nat} {w : Int} (hp : l[k]? = some w) (hw : w < 0 ∨ 15 < w) : badX l = true := by
  have e1 : l = l.take k ++ w :: l.drop (k + 1) := by
    rw [← (List.getElem?_eq_some_iff.1 hp).2, ← List.drop_eq_getElem_cons, List.take_append_drop]
  rw [e1, badX_app, badX, if_pos hw, Bool.or_true]
theorem badX_mem {l : List Int} (h : badX l = false) {w : Int} (hw : w ∈ l) : 0 ≤ w ∧ w ≤ 15 := by
  induction l with
  | nil => cases hw
  | cons x l ih =>
    unfold badX at h
    split at h
    · cases h
    · rcases List.mem_cons.1 hw with rfl | hw
      · omega
      · exact ih h hw

def fillA (l : List Int) : Nat := if lensE l = 0 then fillN l else 0

set_option maxHeartbeats 1000000 in
set_option maxRecDepth 100000 in
theorem fill_any (v : Value) (xs : List Int) (W : World) (hs : SliceAt W 1 v (xs.map rowI)) (hg : ∀ x ∈ xs, (Lit.int .i64 x).wf = true) (hn : xs.length ≤ 1000000000000000) :
    Calls Try.prog 25 #[v] W fun e w' => e = .returned (.tuple #[.int .i64 (fillA xs : Int), .int .i64 (lensE xs : Int)]) ∧ W = w' := by
  obtain ⟨q, cap, b, off, rfl, hq, hc⟩ := hs.view
  simp only [List.length_map] at hq ⊢
  have HQ := Lib.hid hq
  have HC : Hid (∀ k x, xs[k]? = some x → W.cell? ⟨b, off + k, none⟩ = some (.int .i64 x)) := fun k p hx => by
    have := hc k _ (by rw [List.getElem?_map, hx]; rfl) 0 _ rfl
    simpa [Nat.mul_one] using this
  clear hs hq hc
  by_cases hbig : (320 : Int) < (xs.length : Int)
  · have hE : lensE xs = 2 := by rw [lensE, if_pos (by omega)]
    have hF : fillA xs = 0 := by rw [fillA, if_neg (by rw [hE]; decide)]
    rw [hF, hE]
    go_enter Try.func25, Try.ntmps25
    go_wp2_with (fail)
    go_ret2
    exact ⟨rfl, rfl⟩
  · have hn3 : xs.length ≤ 320 := by omega
    go_enter Try.func25, Try.ntmps25
    go_wp2_with (fail)
    go_loopw [4, 12] (fun z y wr => ∃ k n : Nat, k ≤ xs.length ∧ z = .int .i64 n ∧ y = .int .i64 k ∧ Hid (badX (xs.take k) = false) ∧ Hid (n = fillN (xs.take k)) ∧ n ≤ 16384 * k ∧ W = wr) (fun _ y _ => xs.length - (intOf y).toNat)
    case atStart => exact ⟨0, 0, Nat.zero_le _, rfl, rfl, rfl, rfl, Nat.le_refl _, rfl⟩
    case round =>
      obtain ⟨k, n, hk, rfl, rfl, hfe, hfn, hnk, rfl⟩ := hrel
      by_cases hlt : k < xs.length
      · obtain ⟨rfl, hblk⟩ := HQ.out k hlt
        obtain ⟨x, hp⟩ : ∃ p, xs[k]? = some p := ⟨_, List.getElem?_eq_getElem hlt⟩
        have hc0 := HC.out k _ hp
        have hltI : (k : Int) < (xs.length : Int) := by omega
        have hp2 := i64_bd (hg _ (List.mem_of_getElem? hp))
        have HP := Lib.hid hp
        clear hp
        by_cases hneg : x < 0
        · have hE : lensE xs = 1 := by rw [lensE, if_neg (by omega), if_pos (badX_at HP.out (.inl hneg))]
          have hF : fillA xs = 0 := by rw [fillA, if_neg (by rw [hE]; decide)]
          go_wp2_with (fail)
          go_ret2
          exact ⟨rfl, rfl⟩
        · by_cases hbig : 15 < x
          · have hE : lensE xs = 1 := by rw [lensE, if_neg (by omega), if_pos (badX_at HP.out (.inr hbig))]
            have hF : fillA xs = 0 := by rw [fillA, if_neg (by rw [hE]; decide)]
            go_wp2_with (fail)
            go_ret2
            exact ⟨rfl, rfl⟩
          · have HE := Lib.hid (badX_next HP.out hfe.out (by omega))
            obtain ⟨m, hm⟩ : ∃ m, m = n + wt x := ⟨_, rfl⟩
            have HN : Hid (m = fillN (xs.take (k + 1))) := by show m = _; rw [fillN_next HP.out, ← hfn.out]; exact hm
            have hmk : m ≤ 16384 * (k + 1) := by have := wt_le x; omega
            by_cases h0 : 0 < x
            · obtain ⟨w, rfl⟩ : ∃ w : Nat, x = (w : Int) := ⟨x.toNat, by omega⟩
              have hws : (15 : Int) - (w : Int) = ((15 - w : Nat) : Int) := by omega
              have hwt : wt (w : Int) = 2 ^ (15 - w) := by unfold wt; rw [if_pos h0]; rfl
              have hmI : (n : Int) + 2 ^ (15 - w) = (m : Int) := by rw [hm, hwt]; simp
              have hp14 : (2 : Int) ^ (15 - w) ≤ 16384 := by have := wt_le (w : Int); rw [hwt] at this; exact_mod_cast this
              clear hm hwt
              go_wp2_with (fail)
              exact ⟨⟨k + 1, m, by omega, rfl, rfl, HE, HN, hmk, trivial⟩, by show xs.length - (((k : Int) + 1).toNat) < xs.length - ((k : Int).toNat); omega⟩
            · have hwt : wt x = 0 := by unfold wt; rw [if_neg h0]
              rw [hwt, Nat.add_zero] at hm
              subst hm
              go_wp2_with (fail)
              exact ⟨⟨k + 1, m, by omega, rfl, rfl, HE, HN, hmk, trivial⟩, by show xs.length - (((k : Int) + 1).toNat) < xs.length - ((k : Int).toNat); omega⟩
      · have hke : k = xs.length := by omega
        subst hke
        rw [List.take_length] at hfe hfn
        have hE : lensE xs = 0 := by rw [lensE, if_neg (by omega), if_neg (by rw [hfe.out]; decide)]
        have hF : fillA xs = n := by rw [fillA, if_pos hE, hfn.out]
        go_wp2_with (fail)
        go_ret2
        exact ⟨by rw [hF, hE]; rfl, rfl⟩
end Go.Proofs.Ytppnaofebkpbkaa.lens
