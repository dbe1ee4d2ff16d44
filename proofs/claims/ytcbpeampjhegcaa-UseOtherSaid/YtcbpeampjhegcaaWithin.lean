/-
  Within: the walk.
-/
import Derived.Test.YtcbpeampjhegcaaRows
import Derived.Test.YtcbpeampjhegcaaKit
namespace Go.Proofs.Ytcbpeampjhegcaa.within
open Go.RowKit kit

def withinF (k n : Int) : Int := k % 18446744073709551616 % n
theorem withinF_bd (k n : Int) (h : 1 ≤ n) : 0 ≤ withinF k n ∧ withinF k n < n := by
  unfold withinF
  exact ⟨Int.emod_nonneg _ (by omega), Int.emod_lt_of_pos _ (by omega)⟩

theorem within_any (k n : Int) (h1 : 1 ≤ n) (h2 : n ≤ 9223372036854775807) (W : World) :
    Calls Try.prog 5 #[.int .i64 k, .int .i64 n] W fun e w' => e = .returned (.int .i64 (withinF k n)) ∧ W = w' := by
  have hb := withinF_bd k n h1
  have h3 : ¬ n = 0 := by omega
  go_enter Try.func5, Try.ntmps5
  go_wp2_with (fail)
  go_ret
  refine ⟨ret_int (a := wrap64 ((IntKind.u64.wrap k).tmod n)) ?_, rfl⟩
  have e : (IntKind.u64.wrap k).tmod n = withinF k n := by
    rw [IntKind.wrap_u64, Int.tmod_eq_emod_of_nonneg (by omega)]; rfl
  rw [e]
  exact IntWalk.wrap64_in _ (by omega)
end Go.Proofs.Ytcbpeampjhegcaa.within
