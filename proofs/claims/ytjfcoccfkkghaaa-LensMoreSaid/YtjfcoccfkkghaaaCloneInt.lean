/-
  slices.Clone of ints.
-/
import Derived.Test.YtjfcoccfkkghaaaRows
import Derived.Test.YtjfcoccfkkghaaaMore
import Derived.Lib.SliceRun
namespace Go.Proofs.Ytjfcoccfkkghaaa.cloneint
open Go.RowKit kit
set_option linter.unusedVariables false

def iCells (l : List Int) : List Value := l.map fun x => Value.int .i64 x
theorem tI : SliceTy Try.prog 22 3 1 8 (.int .i64 0) := sliceTy_mk Try.underlying22 (by kernel_rfl) rfl (by decide)

set_option maxRecDepth 100000 in
theorem clone_any (v : Value) (xs : List Int) (W : World) (hs : SliceAt W 1 v (xs.map fun x => [Value.int .i64 x])) (hn : xs.length ≤ 1000000000000) :
    Calls Try.prog 18 #[v] W fun e w' => ∃ v', e = .returned v' ∧ w'.ownsRow W.heap.size 3 1 v' xs.length (iCells xs) ∧ Below W.heap.size W w' := by
  have qn : ∀ (w : World) (a : Option Addr) (n c n' c' : Nat), (binOp .eql 22 (.slice a n c) (.slice none n' c')).run Try.prog w = .ok (.bool a.isNone) w := fun w a n c n' c' => Lib.run_eql_slice_nil w _ _ a n c n' c' Try.underlying22
  obtain ⟨q, cap, b, off, rfl, hq, hc⟩ := hs.view
  simp only [List.length_map] at hq ⊢
  have HC : Hid (∀ k x, xs[k]? = some x → W.cell? ⟨b, off + k, none⟩ = some (.int .i64 x)) := fun k p hx => by
    have := hc k _ (by rw [List.getElem?_map, hx]; rfl) 0 _ rfl
    simpa [Nat.mul_one] using this
  clear hc hs
  cases q with
  | none =>
    have h0 : xs.length = 0 := by
      rcases Nat.eq_zero_or_pos xs.length with h | h
      · exact h
      · have := (hq 0 h).1; cases this
    have h1 : xs = [] := List.eq_nil_of_length_eq_zero h0
    subst h1
    clear hq HC
    go_enter Try.func18, Try.ntmps18
    go_wp2_with (fail)
    go_ret
    exact ⟨_, rfl, World.ownsRow_nil _ _ _ _, Below.refl _ _⟩
  | some ad =>
    have HQ := Lib.hid hq
    clear hq
    obtain ⟨h1, h2, h3, i, hi1, hi2, hi3, hi4⟩ := tI
    go_enter Try.func18, Try.ntmps18
    go_wp2_with (at_builtin; refine wpList_append_own _ rfl (.tmp 5) (.tmp 6) 22 rfl W.heap.size 3 i (.int .i64 0) 1 8 h1 hi1 hi2 hi3 hi4 h2 h3 _ 0 [] rfl (World.ownsRow_made W #[] 0 (Nat.le_refl _) (Nat.zero_le _) rfl) ad xs.length cap (iCells xs) rfl ?c1 ?c2 ?c3 ?c4 ?c5 ?c6 ?_)
    case c1 => simp [iCells]
    case c2 =>
      intro j u hj
      have hjl : j < xs.length := by have := (List.getElem?_eq_some_iff.1 hj).1; simpa [iCells] using this
      obtain ⟨hae, _⟩ := HQ.out j hjl
      have hae2 := Option.some.inj hae
      subst hae2
      have hx : xs[j]? = some xs[j] := List.getElem?_eq_getElem hjl
      have ea : (⟨b, off, none⟩ : Addr).add j = ⟨b, off + j, none⟩ := by unfold Addr.add; split <;> simp_all
      rw [ea]
      have hu : u = .int .i64 xs[j] := by
        have h9 : (iCells xs)[j]? = some (.int .i64 xs[j]) := by simp [iCells, hjl]
        rw [h9] at hj
        exact (Option.some.inj hj).symm
      rw [hu]
      exact cell_old (HC.out j _ hx)
    case c3 => intro u hu; obtain ⟨x, _, rfl⟩ := List.mem_map.1 hu; rfl
    case c4 => unfold maxLen; omega
    case c5 => omega
    case c6 => simp
    intro v' w1 hown hgr _
    have hb : Below W.heap.size W w1 := ((Below.refl _ W).alloc (Nat.le_refl _) _).grown hgr (by simp) (by intro k hk; simp [Value.ownBlock] at hk; omega)
    go_wp2_with (fail)
    go_ret
    exact ⟨v', rfl, hown, hb⟩
end Go.Proofs.Ytjfcoccfkkghaaa.cloneint
