/-
  SumJoins: the walk of the law: it answers true.
-/
import Derived.Test.YtjeocmkdekdlnaaJoin
namespace Go.Proofs.Ytjeocmkdekdlnaa.lawSumJoins
open Go.RowKit kit sum
set_option linter.unusedVariables false

theorem crcL_lin (l : List UInt8) : ∀ r : BitVec 32, crcL r l = steps (8 * l.length) r ^^^ crcL 0#32 l := by
  induction l with
  | nil => intro r; simp [crcL, steps]
  | cons x l ih =>
    intro r
    have e : byteStep r x = steps 8 r ^^^ byteStep 0#32 x := by
      rw [byteStep, byteStep, steps_xor, BitVec.zero_xor]
    show crcL (byteStep r x) l = _ ^^^ crcL (byteStep 0#32 x) l
    rw [ih (byteStep r x), ih (byteStep 0#32 x), e, steps_xor, steps_split (8 * (x :: l).length) (8 * l.length) 8 r (by simp; omega), BitVec.xor_assoc]

theorem more_app (r : BitVec 32) (a b : List UInt8) : moreB (moreB r a) b = moreB r (a ++ b) := by
  simp only [moreB, BitVec.not_not, crcL_app]

theorem join_app (a b : List UInt8) (n : Int) (hn : n = (b.length : Int)) : joinB (moreB 0#32 a) (moreB 0#32 b) n = moreB 0#32 (a ++ b) := by
  have e : (max 0 n).toNat = b.length := by omega
  rw [joinB, e]
  simp only [moreB, crcL_app]
  rw [crcL_lin b (crcL (~~~ 0#32) a), crcL_lin b (~~~ 0#32)]
  have h := steps_xor (8 * b.length) (crcL (~~~ 0#32) a) (~~~ 0#32)
  have e2 : ∀ z : BitVec 32, z ^^^ ~~~ 0#32 = ~~~ z := by
    intro z
    rw [show ~~~ 0#32 = BitVec.allOnes 32 from by decide, BitVec.xor_allOnes]
  rw [e2] at h
  rw [h]
  apply BitVec.eq_of_getLsbD_eq
  intro i hi
  simp only [BitVec.getLsbD_xor, BitVec.getLsbD_not, hi, decide_true, Bool.true_and]
  cases (steps (8 * b.length) (crcL (~~~ 0#32) a)).getLsbD i <;> cases (steps (8 * b.length) (~~~ 0#32)).getLsbD i <;> cases (crcL 0#32 b).getLsbD i <;> rfl

theorem sum_as' (s : ByteArray) (hs : s.size ≤ 1000000000000000) (v : BitVec 32) (h : v = moreB 0 s.data.toList) (W : World) :
    Calls Try.prog 22 #[.string s] W fun e w' => e = .returned (.int .u32 (v.toNat : Int)) ∧ Below W.heap.size W w' := by
  rw [h]; exact sum_any s hs W
theorem join_as (a b : BitVec 32) (n : Int) (hn : n ≤ 9223372036854775807) (v : BitVec 32) (h : v = joinB a b n) (W : World) :
    Calls Try.prog 31 #[.int .u32 (a.toNat : Int), .int .u32 (b.toNat : Int), .int .i64 n] W fun e w' => e = .returned (.int .u32 (v.toNat : Int)) ∧ Below W.heap.size W w' := by
  rw [h]; exact join_any a b n hn W

set_option maxHeartbeats 1000000 in
set_option maxRecDepth 100000 in
theorem walk (a : ByteArray) (ha : a.size ≤ reachBytes) (b : ByteArray) (hb : b.size ≤ reachBytes) (c : ByteArray) (hc : c.size ≤ reachBytes) (W : World) :
    Calls Try.prog 12 #[.string a, .string b, .string c] W fun e w' => e = .returned (.bool true) ∧ Below W.heap.size W w' := by
  have hr : reachBytes = 140737488351232 := rfl
  rw [hr] at ha hb hc
  clear hr
  have eb := Lib.size_eq b
  have ec := Lib.size_eq c
  obtain ⟨p, hp⟩ : ∃ p, p = moreB 0#32 a.data.toList := ⟨_, rfl⟩
  obtain ⟨q, hq⟩ : ∃ q, q = moreB 0#32 b.data.toList := ⟨_, rfl⟩
  obtain ⟨r, hr⟩ : ∃ r, r = moreB 0#32 c.data.toList := ⟨_, rfl⟩
  obtain ⟨u, hu⟩ : ∃ u, u = moreB 0#32 (a.data.toList ++ b.data.toList) := ⟨_, rfl⟩
  obtain ⟨v, hv⟩ : ∃ v, v = moreB 0#32 (a.data.toList ++ b.data.toList ++ c.data.toList) := ⟨_, rfl⟩
  have hu1 : u = moreB p b.data.toList := by rw [hu, hp, more_app]
  have hv1 : v = moreB u c.data.toList := by rw [hv, hu, more_app]
  have hu2 : u = joinB p q (b.size : Int) := by rw [hu, hp, hq, join_app _ _ _ (by omega)]
  have hv2 : v = joinB u r (c.size : Int) := by rw [hv, hu, hr, join_app _ _ _ (by omega)]
  have hv0 : v = moreB 0 (a ++ b ++ c).data.toList := by rw [hv]; simp
  have Hp := Lib.hid hp
  have Hq := Lib.hid hq
  have Hr := Lib.hid hr
  have Hu1 := Lib.hid hu1
  have Hu2 := Lib.hid hu2
  have Hv1 := Lib.hid hv1
  have Hv2 := Lib.hid hv2
  have Hv0 := Lib.hid hv0
  have hl : (a ++ b ++ c).size ≤ 1000000000000000 := by rw [ByteArray.size_append, ByteArray.size_append]; omega
  clear hp hq hr hu hv hu1 hu2 hv1 hv2 hv0 eb ec
  go_enter Try.func12, Try.ntmps12
  go_wp2_with (fail)
  refine (sum_as' _ hl v Hv0.out _).mono ?_
  rintro e w1 ⟨rfl, hb1⟩
  go_wp2_with (fail)
  refine (from_below (sum_as ⟨#[49, 50, 51, 52, 53, 54, 55, 56, 57]⟩ (by decide) 3808858755#32 (by decide) _) hb1).mono ?_
  rintro e w2 ⟨rfl, hb2⟩
  go_wp2_with (fail)
  refine (from_below (sum_as a ha p Hp.out _) hb2).mono ?_
  rintro e w3 ⟨rfl, hb3⟩
  go_wp2_with (fail)
  refine (from_below (more_as p b hb u Hu1.out _) hb3).mono ?_
  rintro e w4 ⟨rfl, hb4⟩
  go_wp2_with (fail)
  refine (from_below (more_as u c hc v Hv1.out _) hb4).mono ?_
  rintro e w5 ⟨rfl, hb5⟩
  go_wp2_with (fail)
  refine (from_below (sum_as a ha p Hp.out _) hb5).mono ?_
  rintro e w6 ⟨rfl, hb6⟩
  go_wp2_with (fail)
  refine (from_below (sum_as b hb q Hq.out _) hb6).mono ?_
  rintro e w7 ⟨rfl, hb7⟩
  go_wp2_with (fail)
  refine (from_below (join_as p q _ (by omega) u Hu2.out _) hb7).mono ?_
  rintro e w8 ⟨rfl, hb8⟩
  go_wp2_with (fail)
  refine (from_below (sum_as c hc r Hr.out _) hb8).mono ?_
  rintro e w9 ⟨rfl, hb9⟩
  go_wp2_with (fail)
  refine (from_below (join_as u r _ (by omega) v Hv2.out _) hb9).mono ?_
  rintro e w10 ⟨rfl, hb10⟩
  go_wp2_with (fail)
  go_ret
  exact ⟨rfl, hb10⟩
end Go.Proofs.Ytjeocmkdekdlnaa.lawSumJoins
