/-
  NumOne: the walk of the law: it answers true.
-/
import Derived.Test.YtjeocmkdekdlnaaPut
import Derived.Test.YtjeocmkdekdlnaaGet
namespace Go.Proofs.Ytjeocmkdekdlnaa.lawNumOne
open Go.RowKit kit put get

set_option maxRecDepth 100000 in
theorem walk (s : ByteArray) (hs : s.size ≤ 140737488351232) (W : World) :
    Calls Try.prog 5 #[.string s] W fun e w' => e = .returned (.bool true) ∧ Below W.heap.size W w' := by
  rcases getB_facts s.data.toList with ⟨k, m, h1, h2, h3, h4, h5⟩ | h | h
  · have H := Lib.hid h1
    have H5 := Lib.hid h5
    clear h1 h5
    go_enter Try.func5, Try.ntmps5
    go_wp2_with (fail)
    refine (get_as _ (by decide) 128 2 0 (by decide) _).mono ?_
    rintro e w' ⟨rfl, rfl⟩
    go_wp2_with (fail)
    refine (get_as s (by unfold maxLen; omega) m k 0 H.out _).mono ?_
    rintro e w' ⟨rfl, rfl⟩
    go_wp2_with (fail)
    have h2' : (1 : Int) ≤ (k : Int) := by omega
    have h3' : (k : Int) ≤ (s.size : Int) := by simp at h3; omega
    clear h3 h2
    refine wp_region_below (by kernel_rfl) (by kernel_rfl) ?_
    repeat (go_big_quiet_step ((go_at_call 19; exact call_below (put_any m h4 _))))
    refine wpQuiet_nil ?_
    rintro _ ⟨wx, rfl⟩
    go_wp2_with (fail)
    go_ret
    refine ⟨ret_bool (a := (putB m == (s.extract 0 k).toList)) ?_, wx.h⟩
    rw [Lib.extract_toList, H5.out]
    simp
  all_goals
    have H := Lib.hid h
    clear h
    go_enter Try.func5, Try.ntmps5
    go_wp2_with (fail)
    refine (get_as _ (by decide) 128 2 0 (by decide) _).mono ?_
    rintro e w' ⟨rfl, rfl⟩
    go_wp2_with (fail)
    refine (get_as s (by unfold maxLen; omega) 0 0 _ H.out _).mono ?_
    rintro e w' ⟨rfl, rfl⟩
    go_wp2_with (fail)
    go_ret
    exact ⟨rfl, Below.refl _ _⟩
end Go.Proofs.Ytjeocmkdekdlnaa.lawNumOne
