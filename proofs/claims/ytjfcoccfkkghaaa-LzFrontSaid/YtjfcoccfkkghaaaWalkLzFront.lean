/-
  LzFront: the plain law, and the walk.
-/
import Derived.Test.YtjfcoccfkkghaaaLz
import Derived.Test.YtjfcoccfkkghaaaWithin
namespace Go.Proofs.Ytjfcoccfkkghaaa.lawLzFront
open Go.RowKit kit Go.Proofs.Ytjfcoccfkkghaaa.lz Go.Proofs.Ytjfcoccfkkghaaa.within
set_option linter.unusedVariables false

theorem copyF_pre : ∀ (n d : Nat) (out : List UInt8), out <+: copyF n d out := by
  intro n
  induction n with
  | zero => intro d out; exact List.prefix_refl _
  | succ n ih => intro d out; rw [copyF]; exact List.IsPrefix.trans (List.prefix_append _ _) (ih d _)
theorem stepO_pre (out : List UInt8) (m : Int × Int × Int) : out <+: stepO out m := by
  unfold stepO
  split
  · exact List.IsPrefix.trans (List.prefix_append _ _) (copyF_pre _ _ _)
  · exact copyF_pre _ _ _
theorem expF_pre : ∀ (l : List (Int × Int × Int)) (out : List UInt8), (expF l out).2 ≠ 0 ∧ (expF l out).1 = [] ∨ (expF l out).2 = 0 ∧ out <+: (expF l out).1 := by
  intro l
  induction l with
  | nil => intro out; exact .inr ⟨rfl, List.prefix_refl _⟩
  | cons m l ih =>
    intro out
    rw [expF]
    split
    · rcases ih (stepO out m) with h | h
      · exact .inl h
      · exact .inr ⟨h.1, List.IsPrefix.trans (stepO_pre out m) h.2⟩
    · rename_i h; exact .inl ⟨h, rfl⟩
/-- the law: what the first marks refuse all refuse; else what they say is the beginning of what all say -/
theorem expF_take : ∀ (l : List (Int × Int × Int)) (k : Nat) (out : List UInt8),
    (∃ f, f ≠ 0 ∧ expF (l.take k) out = ([], f) ∧ expF l out = ([], f)) ∨
    ((expF (l.take k) out).2 = 0 ∧ ((expF l out).2 ≠ 0 ∨ (expF l out).2 = 0 ∧ (expF (l.take k) out).1 <+: (expF l out).1)) := by
  intro l
  induction l with
  | nil => intro k out; right; simp [expF]
  | cons m l ih =>
    intro k out
    cases k with
    | zero =>
      right
      refine ⟨by simp [expF], ?_⟩
      rcases expF_pre (m :: l) out with h | h
      · exact .inl h.1
      · exact .inr ⟨h.1, by simpa [expF] using h.2⟩
    | succ k =>
      rw [List.take_succ_cons, expF, expF]
      split
      · exact ih k (stepO out m)
      · rename_i h; exact .inl ⟨_, h, rfl, rfl⟩

theorem lit_one {w : World} {e : Nat} (a b c : Value) : SliceAt (w.alloc (.cells #[a, b, c] e)) 3 (.slice (some ⟨w.heap.size, 0, none⟩) 1 1) [[a, b, c]] := by
  refine .inr ⟨w.heap.size, 0, 1, rfl, by simp, by unfold maxLen; omega, by simp, by simp, ?_⟩
  intro i r hr
  have hi : i = 0 := by have := (List.getElem?_eq_some_iff.1 hr).1; simp at this; omega
  subst hi
  have hr2 : [a, b, c] = r := by simpa using hr
  subst hr2
  refine ⟨rfl, fun j x hx => ?_⟩
  exact cell_new rfl (by simpa using hx)

theorem take_at {w : World} {sz len cap b off k : Nat} {q : Option Addr} {rows : List (List Value)} (h : SliceAt w sz (.slice q rows.length cap) rows) (hk : k ≤ rows.length) : SliceAt w sz (.slice q k cap) (rows.take k) := by
  rcases h with ⟨h0, hv⟩ | ⟨b, off, cap, h1, h2, h3, h4, h5, h6⟩
  · subst h0
    have : k = 0 := by simpa using hk
    subst this
    exact .inl ⟨rfl, by simpa using hv⟩
  · simp only [Value.slice.injEq] at h1
    obtain ⟨rfl, _, rfl⟩ := h1
    by_cases hk0 : k = 0
    · subst hk0
      exact .inl ⟨rfl, .inr ⟨_, _, rfl⟩⟩
    · refine .inr ⟨b, off, _, by simp [Nat.min_eq_left hk], by simp; omega, h3, by simp; omega, h5, ?_⟩
      intro i r hr
      rw [List.getElem?_take] at hr
      split at hr
      · exact h6 i r hr
      · cases hr

theorem first : expB [(0, 0, 122)] = ([122], 0) := by decide

set_option maxHeartbeats 1000000 in
set_option maxRecDepth 100000 in
theorem walk (W : World) (v : Value) (xs : List (Int × Int × Int)) (hs : SliceAt W 3 v (xs.map fun p : Int × Int × Int => [Value.int .i64 p.1, Value.int .i64 p.2.1, Value.int .u8 p.2.2])) (hg : ∀ p ∈ xs, (Lit.int .i64 p.1).wf = true ∧ (Lit.int .i64 p.2.1).wf = true ∧ (Lit.int .u8 p.2.2).wf = true) (hn : xs.length * Try.prog.bytesOf 30 ≤ reachBytes) (a : Int) (wa : (Lit.int .i64 a).wf = true) :
    Calls Try.prog 5 #[v, .int .i64 a] W fun e w' => e = .returned (.bool true) ∧ Below W.heap.size W w' := by
  have hn2 : xs.length ≤ 100000000000000 := by
    have : Try.prog.bytesOf 30 = 24 := by kernel_rfl
    rw [this] at hn
    unfold reachBytes at hn
    omega
  clear hn
  obtain ⟨q, cap, b, off, rfl, hq, _⟩ := hs.view
  clear hq
  have hlm : (xs.map fun p : Int × Int × Int => [Value.int .i64 p.1, Value.int .i64 p.2.1, Value.int .u8 p.2.2]).length = xs.length := by simp
  rw [hlm] at hs ⊢
  have hs' : SliceAt W 3 (.slice q xs.length cap) (xs.map rowM) := hs
  clear hs hlm
  go_enter Try.func5, Try.ntmps5
  go_wp2_with (fail)
  refine (expand_any _ [(0, 0, 122)] _ (lit_one _ _ _) (by simp [goodM, Lit.wf, IntKind.min, IntKind.max, IntKind.signed, IntKind.bits]) (by simp)).mono ?_
  rintro e W1 ⟨rfl, hb1⟩
  have hb1' := ((Below.refl _ _).alloc (Nat.le_refl _) _).trans (hb1.mono (show W.heap.size ≤ _ by simp))
  rw [first]
  clear hb1
  have hcap : xs.length ≤ cap := by
    rcases hs' with ⟨h0, hv⟩ | ⟨b, off, cap', h1, h2, _⟩
    · have : xs.length = 0 := by have := congrArg List.length h0; simpa using this
      omega
    · simp only [Value.slice.injEq] at h1
      simp only [List.length_map] at h2
      omega
  have hb := withinF_bd a ((xs.length : Int) + 1) (by omega)
  obtain ⟨k, hk⟩ : ∃ k : Nat, withinF a ((xs.length : Int) + 1) = (k : Int) := ⟨(withinF a ((xs.length : Int) + 1)).toNat, by omega⟩
  have hkl : k ≤ xs.length := by omega
  have hkI : (k : Int) ≤ (cap : Int) := by omega
  have hst : SliceAt W 3 (.slice q k cap) ((xs.take k).map rowM) := by
    have := take_at (b := 0) (off := 0) (len := 0) (k := k) (rows := xs.map rowM) (by rw [List.length_map]; exact hs') (by simpa using hkl)
    rwa [← List.map_take] at this
  obtain ⟨S, e, hS⟩ : ∃ S e, expB xs = (S, e) := ⟨_, _, rfl⟩
  obtain ⟨T, f, hT⟩ : ∃ T f, expB (xs.take k) = (T, f) := ⟨_, _, rfl⟩
  have hlaw : (f ≠ 0 ∧ T = [] ∧ S = [] ∧ e = f) ∨ f = 0 ∧ (e ≠ 0 ∨ e = 0 ∧ T <+: S) := by
    have h := expF_take xs k []
    unfold expB at hS hT
    rw [hS, hT] at h
    rcases h with ⟨g, h1, h2, h3⟩ | ⟨h1, h2⟩
    · simp only [Prod.mk.injEq] at h2 h3
      exact .inl ⟨by omega, h2.1, h3.1, by omega⟩
    · exact .inr ⟨h1, h2⟩
  obtain ⟨TB, hTB⟩ : ∃ TB : ByteArray, (⟨T.toArray⟩ : ByteArray) = TB := ⟨_, rfl⟩
  obtain ⟨SB, hSB⟩ : ∃ SB : ByteArray, (⟨S.toArray⟩ : ByteArray) = SB := ⟨_, rfl⟩
  have HK := Lib.hid hk
  have HS : Hid ((⟨(expB xs).1.toArray⟩ : ByteArray) = SB ∧ (expB xs).2 = e) := ⟨by rw [hS]; exact hSB, by rw [hS]⟩
  have HT : Hid ((⟨(expB (xs.take k)).1.toArray⟩ : ByteArray) = TB ∧ (expB (xs.take k)).2 = f) := ⟨by rw [hT]; exact hTB, by rw [hT]⟩
  have hres : (f ≠ 0 ∧ TB = ⟨#[]⟩ ∧ SB = ⟨#[]⟩ ∧ e = f) ∨ f = 0 ∧ (e ≠ 0 ∨ e = 0 ∧ (TB.size : Int) ≤ (SB.size : Int) ∧ SB.extract 0 TB.size = TB) := by
    rcases hlaw with ⟨h1, rfl, rfl, h4⟩ | ⟨h1, h2⟩
    · exact .inl ⟨h1, hTB.symm, hSB.symm, h4⟩
    · refine .inr ⟨h1, ?_⟩
      rcases h2 with h2 | ⟨h2, R, rfl⟩
      · exact .inl h2
      · refine .inr ⟨h2, ?_, ?_⟩
        · rw [← hTB, ← hSB, size_mk, size_mk]; simp; omega
        · rw [← hTB, ← hSB, size_mk]
          apply ByteArray.ext
          simp
  clear hb hk hS hT hlaw hTB hSB
  have hgt : ∀ p ∈ xs.take k, goodM p := fun p hp => hg p (List.mem_of_mem_take hp)
  have hlt : (xs.take k).length ≤ 100000000000000000 := by simp; omega
  go_wp2_with (fail)
  refine (expand_any _ xs _ (hs'.below (Nat.le_refl _) hb1') hg (by omega)).mono ?_
  rintro e1 W2 ⟨rfl, hb2⟩
  rw [HS.out.1, HS.out.2]
  have hb2' := hb1'.trans (hb2.mono hb1'.size)
  clear hb2
  have hlI : (xs.length : Int) ≤ 100000000000000 := by omega
  have hcI : (0 : Int) ≤ (cap : Int) := by omega
  go_wp2_with (fail)
  refine (within_any _ _ (by omega) (by omega) _).mono ?_
  rintro e1 W3 ⟨rfl, rfl⟩
  rw [HK.out]
  rcases hres with ⟨hf, rfl, rfl, rfl⟩ | ⟨rfl, he | ⟨rfl, hle, hex⟩⟩
  · have hfb : ((e : Int) != 0) = true := by simp; omega
    rcases q with _ | ad <;>
    · go_wp2_with (fail)
      refine (expand_any _ (xs.take k) _ (hst.below (Nat.le_refl _) hb2') hgt hlt).mono ?_
      rintro e1 W4 ⟨rfl, hb4⟩
      rw [HT.out.1, HT.out.2]
      have hb4' := hb2'.trans (hb4.mono hb2'.size)
      clear hb4
      go_wp2_with (fail)
      go_ret
      exact ⟨rfl, hb4'⟩
  · have heb : ((e : Int) != 0) = true := by simp; omega
    rcases q with _ | ad <;>
    · go_wp2_with (fail)
      refine (expand_any _ (xs.take k) _ (hst.below (Nat.le_refl _) hb2') hgt hlt).mono ?_
      rintro e1 W4 ⟨rfl, hb4⟩
      rw [HT.out.1, HT.out.2]
      have hb4' := hb2'.trans (hb4.mono hb2'.size)
      clear hb4
      go_wp2_with (fail)
      go_ret
      exact ⟨rfl, hb4'⟩
  · rcases q with _ | ad <;>
    · go_wp2_with (fail)
      refine (expand_any _ (xs.take k) _ (hst.below (Nat.le_refl _) hb2') hgt hlt).mono ?_
      rintro e1 W4 ⟨rfl, hb4⟩
      rw [HT.out.1, HT.out.2]
      have hb4' := hb2'.trans (hb4.mono hb2'.size)
      clear hb4
      go_wp2_with (fail)
      go_ret
      exact ⟨rfl, hb4'⟩
end Go.Proofs.Ytjfcoccfkkghaaa.lawLzFront
