/-
  PathOrders: the plain law, and the walk.
-/
import Derived.Test.YtdjnhbaipfkiaaaUnder
import Derived.Test.YtdjnhbaipfkiaaaConcatStr
namespace Go.Proofs.Ytdjnhbaipfkiaaa.lawPathOrders
open Go.RowKit kit Go.Proofs.Ytdjnhbaipfkiaaa.path Go.Proofs.Ytdjnhbaipfkiaaa.concatstr
set_option linter.unusedVariables false

theorem under_iff (a b : List ByteArray) : under a b = true ↔ a <+: b := by
  unfold under
  rw [decide_eq_true_iff, List.prefix_iff_eq_take]
theorem u_refl (a : List ByteArray) : under a a = true := (under_iff a a).2 (List.prefix_refl a)
theorem u_app (a b : List ByteArray) : under a (a ++ b) = true := (under_iff _ _).2 (List.prefix_append a b)
theorem u_anti {a b : List ByteArray} (h : under a b = true) (k : under b a = true) : a = b := by
  obtain ⟨r, h1⟩ := (under_iff a b).1 h
  obtain ⟨s, h2⟩ := (under_iff b a).1 k
  have e := congrArg List.length h1
  have e2 := congrArg List.length h2
  simp at e e2
  have : r = [] := List.eq_nil_of_length_eq_zero (by omega)
  rw [this, List.append_nil] at h1
  exact h1
theorem u_trans {a b c : List ByteArray} (h : under a b = true) (k : under b c = true) : under a c = true := (under_iff _ _).2 (((under_iff _ _).1 h).trans ((under_iff _ _).1 k))
theorem u_total {a b c : List ByteArray} (h : under a c = true) (k : under b c = true) : under a b = true ∨ under b a = true := by
  rcases List.prefix_or_prefix_of_prefix ((under_iff _ _).1 h) ((under_iff _ _).1 k) with h | h
  · exact .inl ((under_iff _ _).2 h)
  · exact .inr ((under_iff _ _).2 h)

theorem cu {W wk : World} (hbk : Below W.heap.size W wk) {a b : Value} {xs ys : List ByteArray} {r : Bool} (hr : under xs ys = r) (ha : SliceAt wk 1 a (xs.map fun x => [Value.string x])) (hb : SliceAt wk 1 b (ys.map fun x => [Value.string x])) (hn : xs.length ≤ 1000000000000000) (hm : ys.length ≤ 1000000000000000) :
    Calls Try.prog 14 #[a, b] wk fun e w' => e = .returned (.bool r) ∧ Below W.heap.size W w' := by
  rw [← hr]
  exact from_below (under_any a b xs ys wk ha hb hn hm) hbk

theorem nil_at (W : World) : SliceAt W 1 (.slice none 0 0) (([] : List ByteArray).map fun x => [Value.string x]) := .inl ⟨rfl, .inl rfl⟩
theorem lit_at (W : World) (s : ByteArray) : SliceAt (W.alloc (.cells #[.string s] 9)) 1 (.slice (some ⟨W.heap.size, 0, none⟩) 1 1) ([s].map fun x => [Value.string x]) := lit_slice [.string s] 1 1 rfl (by simp) (by simp) (by decide)

set_option maxHeartbeats 2000000 in
set_option maxRecDepth 100000 in
theorem walk (W : World) (a : Value) (xs : List ByteArray) (ha : SliceAt W 1 a (xs.map fun s : ByteArray => [Value.string s])) (ga : ∀ s ∈ xs, s.size ≤ maxLen) (na : xs.length * Try.prog.bytesOf 9 ≤ reachBytes)
    (b : Value) (ys : List ByteArray) (hb : SliceAt W 1 b (ys.map fun s : ByteArray => [Value.string s])) (gb : ∀ s ∈ ys, s.size ≤ maxLen) (nb : ys.length * Try.prog.bytesOf 9 ≤ reachBytes)
    (c : Value) (zs : List ByteArray) (hc : SliceAt W 1 c (zs.map fun s : ByteArray => [Value.string s])) (gc : ∀ s ∈ zs, s.size ≤ maxLen) (nc : zs.length * Try.prog.bytesOf 9 ≤ reachBytes) :
    Calls Try.prog 3 #[a, b, c] W fun e w' => e = .returned (.bool true) ∧ Below W.heap.size W w' := by
  have hr : reachBytes = 140737488351232 := rfl
  have hby : Try.prog.bytesOf 9 = 16 := by kernel_rfl
  rw [hr, hby] at na nb nc
  have na2 : xs.length ≤ 1000000000000000 := by omega
  have nb2 : ys.length ≤ 1000000000000000 := by omega
  have nc2 : zs.length ≤ 1000000000000000 := by omega
  have nab : (xs.length + ys.length) * 16 ≤ 281474976710656 := by omega
  clear hr hby na nb nc ga gb gc
  obtain ⟨qa, capa, ba, oa, rfl, _, _⟩ := ha.view
  obtain ⟨qb, capb, bb, ob, rfl, _, _⟩ := hb.view
  obtain ⟨qc, capc, bc, oc, rfl, _, _⟩ := hc.view
  simp only [List.length_map] at ha hb hc ⊢
  have nabl : (xs ++ ys).length ≤ 1000000000000000 := by simp; omega
  have e0 : under [] [⟨#[120]⟩] = true := by decide
  have e1 : under [⟨#[120]⟩] [] = false := by decide
  have eaa := u_refl xs
  have eapp := u_app xs ys
  obtain ⟨rab, hab⟩ : ∃ r, under xs ys = r := ⟨_, rfl⟩
  obtain ⟨rba, hba⟩ : ∃ r, under ys xs = r := ⟨_, rfl⟩
  obtain ⟨rbc, hbc⟩ : ∃ r, under ys zs = r := ⟨_, rfl⟩
  obtain ⟨rac, hac⟩ : ∃ r, under xs zs = r := ⟨_, rfl⟩
  obtain ⟨req, heq⟩ : ∃ r, decide (xs = ys) = r := ⟨_, rfl⟩
  have f1 : rab = true → rba = true → req = true := fun h1 h2 => by rw [← heq, decide_eq_true_iff]; exact u_anti (hab.trans h1) (hba.trans h2)
  have f2 : rab = true → rbc = true → rac = true := fun h1 h2 => by rw [← hac]; exact u_trans (hab.trans h1) (hbc.trans h2)
  have f3 : rac = true → rbc = true → rab = true ∨ rba = true := fun h1 h2 => by rw [← hab, ← hba]; exact u_total (hac.trans h1) (hbc.trans h2)
  have HAB := Lib.hid hab
  have HBA := Lib.hid hba
  have HBC := Lib.hid hbc
  have HAC := Lib.hid hac
  have HEQ := Lib.hid heq
  have HAA := Lib.hid eaa
  have HAPP := Lib.hid eapp
  have H0 := Lib.hid e0
  have H1 := Lib.hid e1
  clear hab hba hbc hac heq eaa eapp e0 e1
  go_enter Try.func3, Try.ntmps3
  go_wp2_with (fail)
  refine (cu ((Below.refl _ _).alloc (Nat.le_refl _) _) H0.out (nil_at _) (lit_at _ _) (by decide) (by decide)).mono ?_
  rintro e w1 ⟨rfl, b1⟩
  go_wp2_with (fail)
  refine (cu (b1.alloc b1.size _) H1.out (lit_at _ _) (nil_at _) (by decide) (by decide)).mono ?_
  rintro e w2 ⟨rfl, b2⟩
  go_wp2_with (fail)
  refine (cu b2 HAA.out (ha.below (Nat.le_refl _) b2) (ha.below (Nat.le_refl _) b2) na2 na2).mono ?_
  rintro e w3 ⟨rfl, b3⟩
  clear b1 b2
  cases rab <;> cases rba <;> cases rbc <;> cases rac
  -- ab=0 ba=0 bc=0 ac=0
  · clear f1 f2 f3
    go_wp2_with (fail)
    refine (cu b3 HAB.out (ha.below (Nat.le_refl _) b3) (hb.below (Nat.le_refl _) b3) na2 nb2).mono ?_
    rintro e w4 ⟨rfl, b4⟩
    go_wp2_with (fail)
    refine (cu b4 HAB.out (ha.below (Nat.le_refl _) b4) (hb.below (Nat.le_refl _) b4) na2 nb2).mono ?_
    rintro e w5 ⟨rfl, b5⟩
    go_wp2_with (fail)
    refine (concat_any _ _ _ xs ys _ ((ha.below (Nat.le_refl _) b5).below (Nat.le_refl _) ((Below.refl _ _).alloc (Nat.le_refl _) _)) ((hb.below (Nat.le_refl _) b5).below (Nat.le_refl _) ((Below.refl _ _).alloc (Nat.le_refl _) _)) (by simp) (cell_new rfl rfl) (cell_new rfl rfl) nab).mono ?_
    rintro e w6 ⟨v6, rfl, hown6, hc6⟩
    have b6 := (b5.alloc b5.size (Obj.cells #[Value.slice qa xs.length capa, Value.slice qb ys.length capb] 22)).trans (hc6.mono (Nat.le_trans b5.size (by simp)))
    have hs6 : SliceAt w6 1 v6 ((xs ++ ys).map fun s : ByteArray => [Value.string s]) := own_sliceN rowE_len (by simp) hown6
    clear hown6 hc6
    go_wp2_with (fail)
    refine (cu b6 HAPP.out (ha.below (Nat.le_refl _) b6) hs6 na2 nabl).mono ?_
    rintro e w7 ⟨rfl, b7⟩
    go_wp2_with (fail)
    refine (cu b7 HAB.out (ha.below (Nat.le_refl _) b7) (hb.below (Nat.le_refl _) b7) na2 nb2).mono ?_
    rintro e w8 ⟨rfl, b8⟩
    go_wp2_with (fail)
    refine (cu b8 HBA.out (hb.below (Nat.le_refl _) b8) (ha.below (Nat.le_refl _) b8) nb2 na2).mono ?_
    rintro e w9 ⟨rfl, b9⟩
    go_wp2_with (fail)
    refine (cu b9 HAC.out (ha.below (Nat.le_refl _) b9) (hc.below (Nat.le_refl _) b9) na2 nc2).mono ?_
    rintro e w10 ⟨rfl, b10⟩
    go_wp2_with (fail)
    go_ret
    exact ⟨rfl, b10⟩
  -- ab=0 ba=0 bc=0 ac=1
  · clear f1 f2 f3
    go_wp2_with (fail)
    refine (cu b3 HAB.out (ha.below (Nat.le_refl _) b3) (hb.below (Nat.le_refl _) b3) na2 nb2).mono ?_
    rintro e w4 ⟨rfl, b4⟩
    go_wp2_with (fail)
    refine (cu b4 HAB.out (ha.below (Nat.le_refl _) b4) (hb.below (Nat.le_refl _) b4) na2 nb2).mono ?_
    rintro e w5 ⟨rfl, b5⟩
    go_wp2_with (fail)
    refine (concat_any _ _ _ xs ys _ ((ha.below (Nat.le_refl _) b5).below (Nat.le_refl _) ((Below.refl _ _).alloc (Nat.le_refl _) _)) ((hb.below (Nat.le_refl _) b5).below (Nat.le_refl _) ((Below.refl _ _).alloc (Nat.le_refl _) _)) (by simp) (cell_new rfl rfl) (cell_new rfl rfl) nab).mono ?_
    rintro e w6 ⟨v6, rfl, hown6, hc6⟩
    have b6 := (b5.alloc b5.size (Obj.cells #[Value.slice qa xs.length capa, Value.slice qb ys.length capb] 22)).trans (hc6.mono (Nat.le_trans b5.size (by simp)))
    have hs6 : SliceAt w6 1 v6 ((xs ++ ys).map fun s : ByteArray => [Value.string s]) := own_sliceN rowE_len (by simp) hown6
    clear hown6 hc6
    go_wp2_with (fail)
    refine (cu b6 HAPP.out (ha.below (Nat.le_refl _) b6) hs6 na2 nabl).mono ?_
    rintro e w7 ⟨rfl, b7⟩
    go_wp2_with (fail)
    refine (cu b7 HAB.out (ha.below (Nat.le_refl _) b7) (hb.below (Nat.le_refl _) b7) na2 nb2).mono ?_
    rintro e w8 ⟨rfl, b8⟩
    go_wp2_with (fail)
    refine (cu b8 HBA.out (hb.below (Nat.le_refl _) b8) (ha.below (Nat.le_refl _) b8) nb2 na2).mono ?_
    rintro e w9 ⟨rfl, b9⟩
    go_wp2_with (fail)
    refine (cu b9 HAC.out (ha.below (Nat.le_refl _) b9) (hc.below (Nat.le_refl _) b9) na2 nc2).mono ?_
    rintro e w10 ⟨rfl, b10⟩
    go_wp2_with (fail)
    refine (cu b10 HBC.out (hb.below (Nat.le_refl _) b10) (hc.below (Nat.le_refl _) b10) nb2 nc2).mono ?_
    rintro e w11 ⟨rfl, b11⟩
    go_wp2_with (fail)
    go_ret
    exact ⟨rfl, b11⟩
  -- ab=0 ba=0 bc=1 ac=0
  · clear f1 f2 f3
    go_wp2_with (fail)
    refine (cu b3 HAB.out (ha.below (Nat.le_refl _) b3) (hb.below (Nat.le_refl _) b3) na2 nb2).mono ?_
    rintro e w4 ⟨rfl, b4⟩
    go_wp2_with (fail)
    refine (cu b4 HAB.out (ha.below (Nat.le_refl _) b4) (hb.below (Nat.le_refl _) b4) na2 nb2).mono ?_
    rintro e w5 ⟨rfl, b5⟩
    go_wp2_with (fail)
    refine (concat_any _ _ _ xs ys _ ((ha.below (Nat.le_refl _) b5).below (Nat.le_refl _) ((Below.refl _ _).alloc (Nat.le_refl _) _)) ((hb.below (Nat.le_refl _) b5).below (Nat.le_refl _) ((Below.refl _ _).alloc (Nat.le_refl _) _)) (by simp) (cell_new rfl rfl) (cell_new rfl rfl) nab).mono ?_
    rintro e w6 ⟨v6, rfl, hown6, hc6⟩
    have b6 := (b5.alloc b5.size (Obj.cells #[Value.slice qa xs.length capa, Value.slice qb ys.length capb] 22)).trans (hc6.mono (Nat.le_trans b5.size (by simp)))
    have hs6 : SliceAt w6 1 v6 ((xs ++ ys).map fun s : ByteArray => [Value.string s]) := own_sliceN rowE_len (by simp) hown6
    clear hown6 hc6
    go_wp2_with (fail)
    refine (cu b6 HAPP.out (ha.below (Nat.le_refl _) b6) hs6 na2 nabl).mono ?_
    rintro e w7 ⟨rfl, b7⟩
    go_wp2_with (fail)
    refine (cu b7 HAB.out (ha.below (Nat.le_refl _) b7) (hb.below (Nat.le_refl _) b7) na2 nb2).mono ?_
    rintro e w8 ⟨rfl, b8⟩
    go_wp2_with (fail)
    refine (cu b8 HBA.out (hb.below (Nat.le_refl _) b8) (ha.below (Nat.le_refl _) b8) nb2 na2).mono ?_
    rintro e w9 ⟨rfl, b9⟩
    go_wp2_with (fail)
    refine (cu b9 HAC.out (ha.below (Nat.le_refl _) b9) (hc.below (Nat.le_refl _) b9) na2 nc2).mono ?_
    rintro e w10 ⟨rfl, b10⟩
    go_wp2_with (fail)
    go_ret
    exact ⟨rfl, b10⟩
  -- ab=0 ba=0 bc=1 ac=1
  · exact absurd (f3 rfl rfl) (by decide)
  -- ab=0 ba=1 bc=0 ac=0
  · clear f1 f2 f3
    go_wp2_with (fail)
    refine (cu b3 HAB.out (ha.below (Nat.le_refl _) b3) (hb.below (Nat.le_refl _) b3) na2 nb2).mono ?_
    rintro e w4 ⟨rfl, b4⟩
    go_wp2_with (fail)
    refine (cu b4 HAB.out (ha.below (Nat.le_refl _) b4) (hb.below (Nat.le_refl _) b4) na2 nb2).mono ?_
    rintro e w5 ⟨rfl, b5⟩
    go_wp2_with (fail)
    refine (concat_any _ _ _ xs ys _ ((ha.below (Nat.le_refl _) b5).below (Nat.le_refl _) ((Below.refl _ _).alloc (Nat.le_refl _) _)) ((hb.below (Nat.le_refl _) b5).below (Nat.le_refl _) ((Below.refl _ _).alloc (Nat.le_refl _) _)) (by simp) (cell_new rfl rfl) (cell_new rfl rfl) nab).mono ?_
    rintro e w6 ⟨v6, rfl, hown6, hc6⟩
    have b6 := (b5.alloc b5.size (Obj.cells #[Value.slice qa xs.length capa, Value.slice qb ys.length capb] 22)).trans (hc6.mono (Nat.le_trans b5.size (by simp)))
    have hs6 : SliceAt w6 1 v6 ((xs ++ ys).map fun s : ByteArray => [Value.string s]) := own_sliceN rowE_len (by simp) hown6
    clear hown6 hc6
    go_wp2_with (fail)
    refine (cu b6 HAPP.out (ha.below (Nat.le_refl _) b6) hs6 na2 nabl).mono ?_
    rintro e w7 ⟨rfl, b7⟩
    go_wp2_with (fail)
    refine (cu b7 HAB.out (ha.below (Nat.le_refl _) b7) (hb.below (Nat.le_refl _) b7) na2 nb2).mono ?_
    rintro e w8 ⟨rfl, b8⟩
    go_wp2_with (fail)
    refine (cu b8 HBA.out (hb.below (Nat.le_refl _) b8) (ha.below (Nat.le_refl _) b8) nb2 na2).mono ?_
    rintro e w9 ⟨rfl, b9⟩
    go_wp2_with (fail)
    go_ret
    exact ⟨rfl, b9⟩
  -- ab=0 ba=1 bc=0 ac=1
  · clear f1 f2 f3
    go_wp2_with (fail)
    refine (cu b3 HAB.out (ha.below (Nat.le_refl _) b3) (hb.below (Nat.le_refl _) b3) na2 nb2).mono ?_
    rintro e w4 ⟨rfl, b4⟩
    go_wp2_with (fail)
    refine (cu b4 HAB.out (ha.below (Nat.le_refl _) b4) (hb.below (Nat.le_refl _) b4) na2 nb2).mono ?_
    rintro e w5 ⟨rfl, b5⟩
    go_wp2_with (fail)
    refine (concat_any _ _ _ xs ys _ ((ha.below (Nat.le_refl _) b5).below (Nat.le_refl _) ((Below.refl _ _).alloc (Nat.le_refl _) _)) ((hb.below (Nat.le_refl _) b5).below (Nat.le_refl _) ((Below.refl _ _).alloc (Nat.le_refl _) _)) (by simp) (cell_new rfl rfl) (cell_new rfl rfl) nab).mono ?_
    rintro e w6 ⟨v6, rfl, hown6, hc6⟩
    have b6 := (b5.alloc b5.size (Obj.cells #[Value.slice qa xs.length capa, Value.slice qb ys.length capb] 22)).trans (hc6.mono (Nat.le_trans b5.size (by simp)))
    have hs6 : SliceAt w6 1 v6 ((xs ++ ys).map fun s : ByteArray => [Value.string s]) := own_sliceN rowE_len (by simp) hown6
    clear hown6 hc6
    go_wp2_with (fail)
    refine (cu b6 HAPP.out (ha.below (Nat.le_refl _) b6) hs6 na2 nabl).mono ?_
    rintro e w7 ⟨rfl, b7⟩
    go_wp2_with (fail)
    refine (cu b7 HAB.out (ha.below (Nat.le_refl _) b7) (hb.below (Nat.le_refl _) b7) na2 nb2).mono ?_
    rintro e w8 ⟨rfl, b8⟩
    go_wp2_with (fail)
    refine (cu b8 HBA.out (hb.below (Nat.le_refl _) b8) (ha.below (Nat.le_refl _) b8) nb2 na2).mono ?_
    rintro e w9 ⟨rfl, b9⟩
    go_wp2_with (fail)
    go_ret
    exact ⟨rfl, b9⟩
  -- ab=0 ba=1 bc=1 ac=0
  · clear f1 f2 f3
    go_wp2_with (fail)
    refine (cu b3 HAB.out (ha.below (Nat.le_refl _) b3) (hb.below (Nat.le_refl _) b3) na2 nb2).mono ?_
    rintro e w4 ⟨rfl, b4⟩
    go_wp2_with (fail)
    refine (cu b4 HAB.out (ha.below (Nat.le_refl _) b4) (hb.below (Nat.le_refl _) b4) na2 nb2).mono ?_
    rintro e w5 ⟨rfl, b5⟩
    go_wp2_with (fail)
    refine (concat_any _ _ _ xs ys _ ((ha.below (Nat.le_refl _) b5).below (Nat.le_refl _) ((Below.refl _ _).alloc (Nat.le_refl _) _)) ((hb.below (Nat.le_refl _) b5).below (Nat.le_refl _) ((Below.refl _ _).alloc (Nat.le_refl _) _)) (by simp) (cell_new rfl rfl) (cell_new rfl rfl) nab).mono ?_
    rintro e w6 ⟨v6, rfl, hown6, hc6⟩
    have b6 := (b5.alloc b5.size (Obj.cells #[Value.slice qa xs.length capa, Value.slice qb ys.length capb] 22)).trans (hc6.mono (Nat.le_trans b5.size (by simp)))
    have hs6 : SliceAt w6 1 v6 ((xs ++ ys).map fun s : ByteArray => [Value.string s]) := own_sliceN rowE_len (by simp) hown6
    clear hown6 hc6
    go_wp2_with (fail)
    refine (cu b6 HAPP.out (ha.below (Nat.le_refl _) b6) hs6 na2 nabl).mono ?_
    rintro e w7 ⟨rfl, b7⟩
    go_wp2_with (fail)
    refine (cu b7 HAB.out (ha.below (Nat.le_refl _) b7) (hb.below (Nat.le_refl _) b7) na2 nb2).mono ?_
    rintro e w8 ⟨rfl, b8⟩
    go_wp2_with (fail)
    refine (cu b8 HBA.out (hb.below (Nat.le_refl _) b8) (ha.below (Nat.le_refl _) b8) nb2 na2).mono ?_
    rintro e w9 ⟨rfl, b9⟩
    go_wp2_with (fail)
    go_ret
    exact ⟨rfl, b9⟩
  -- ab=0 ba=1 bc=1 ac=1
  · clear f1 f2 f3
    go_wp2_with (fail)
    refine (cu b3 HAB.out (ha.below (Nat.le_refl _) b3) (hb.below (Nat.le_refl _) b3) na2 nb2).mono ?_
    rintro e w4 ⟨rfl, b4⟩
    go_wp2_with (fail)
    refine (cu b4 HAB.out (ha.below (Nat.le_refl _) b4) (hb.below (Nat.le_refl _) b4) na2 nb2).mono ?_
    rintro e w5 ⟨rfl, b5⟩
    go_wp2_with (fail)
    refine (concat_any _ _ _ xs ys _ ((ha.below (Nat.le_refl _) b5).below (Nat.le_refl _) ((Below.refl _ _).alloc (Nat.le_refl _) _)) ((hb.below (Nat.le_refl _) b5).below (Nat.le_refl _) ((Below.refl _ _).alloc (Nat.le_refl _) _)) (by simp) (cell_new rfl rfl) (cell_new rfl rfl) nab).mono ?_
    rintro e w6 ⟨v6, rfl, hown6, hc6⟩
    have b6 := (b5.alloc b5.size (Obj.cells #[Value.slice qa xs.length capa, Value.slice qb ys.length capb] 22)).trans (hc6.mono (Nat.le_trans b5.size (by simp)))
    have hs6 : SliceAt w6 1 v6 ((xs ++ ys).map fun s : ByteArray => [Value.string s]) := own_sliceN rowE_len (by simp) hown6
    clear hown6 hc6
    go_wp2_with (fail)
    refine (cu b6 HAPP.out (ha.below (Nat.le_refl _) b6) hs6 na2 nabl).mono ?_
    rintro e w7 ⟨rfl, b7⟩
    go_wp2_with (fail)
    refine (cu b7 HAB.out (ha.below (Nat.le_refl _) b7) (hb.below (Nat.le_refl _) b7) na2 nb2).mono ?_
    rintro e w8 ⟨rfl, b8⟩
    go_wp2_with (fail)
    refine (cu b8 HBA.out (hb.below (Nat.le_refl _) b8) (ha.below (Nat.le_refl _) b8) nb2 na2).mono ?_
    rintro e w9 ⟨rfl, b9⟩
    go_wp2_with (fail)
    go_ret
    exact ⟨rfl, b9⟩
  -- ab=1 ba=0 bc=0 ac=0
  · clear f1 f2 f3
    go_wp2_with (fail)
    refine (cu b3 HAB.out (ha.below (Nat.le_refl _) b3) (hb.below (Nat.le_refl _) b3) na2 nb2).mono ?_
    rintro e w4 ⟨rfl, b4⟩
    go_wp2_with (fail)
    refine (cu b4 HBA.out (hb.below (Nat.le_refl _) b4) (ha.below (Nat.le_refl _) b4) nb2 na2).mono ?_
    rintro e w5 ⟨rfl, b5⟩
    go_wp2_with (fail)
    refine (cu b5 HAB.out (ha.below (Nat.le_refl _) b5) (hb.below (Nat.le_refl _) b5) na2 nb2).mono ?_
    rintro e w6 ⟨rfl, b6⟩
    go_wp2_with (fail)
    refine (cu b6 HBC.out (hb.below (Nat.le_refl _) b6) (hc.below (Nat.le_refl _) b6) nb2 nc2).mono ?_
    rintro e w7 ⟨rfl, b7⟩
    go_wp2_with (fail)
    refine (concat_any _ _ _ xs ys _ ((ha.below (Nat.le_refl _) b7).below (Nat.le_refl _) ((Below.refl _ _).alloc (Nat.le_refl _) _)) ((hb.below (Nat.le_refl _) b7).below (Nat.le_refl _) ((Below.refl _ _).alloc (Nat.le_refl _) _)) (by simp) (cell_new rfl rfl) (cell_new rfl rfl) nab).mono ?_
    rintro e w8 ⟨v8, rfl, hown8, hc8⟩
    have b8 := (b7.alloc b7.size (Obj.cells #[Value.slice qa xs.length capa, Value.slice qb ys.length capb] 22)).trans (hc8.mono (Nat.le_trans b7.size (by simp)))
    have hs8 : SliceAt w8 1 v8 ((xs ++ ys).map fun s : ByteArray => [Value.string s]) := own_sliceN rowE_len (by simp) hown8
    clear hown8 hc8
    go_wp2_with (fail)
    refine (cu b8 HAPP.out (ha.below (Nat.le_refl _) b8) hs8 na2 nabl).mono ?_
    rintro e w9 ⟨rfl, b9⟩
    go_wp2_with (fail)
    refine (cu b9 HAB.out (ha.below (Nat.le_refl _) b9) (hb.below (Nat.le_refl _) b9) na2 nb2).mono ?_
    rintro e w10 ⟨rfl, b10⟩
    go_wp2_with (fail)
    go_ret
    exact ⟨rfl, b10⟩
  -- ab=1 ba=0 bc=0 ac=1
  · clear f1 f2 f3
    go_wp2_with (fail)
    refine (cu b3 HAB.out (ha.below (Nat.le_refl _) b3) (hb.below (Nat.le_refl _) b3) na2 nb2).mono ?_
    rintro e w4 ⟨rfl, b4⟩
    go_wp2_with (fail)
    refine (cu b4 HBA.out (hb.below (Nat.le_refl _) b4) (ha.below (Nat.le_refl _) b4) nb2 na2).mono ?_
    rintro e w5 ⟨rfl, b5⟩
    go_wp2_with (fail)
    refine (cu b5 HAB.out (ha.below (Nat.le_refl _) b5) (hb.below (Nat.le_refl _) b5) na2 nb2).mono ?_
    rintro e w6 ⟨rfl, b6⟩
    go_wp2_with (fail)
    refine (cu b6 HBC.out (hb.below (Nat.le_refl _) b6) (hc.below (Nat.le_refl _) b6) nb2 nc2).mono ?_
    rintro e w7 ⟨rfl, b7⟩
    go_wp2_with (fail)
    refine (concat_any _ _ _ xs ys _ ((ha.below (Nat.le_refl _) b7).below (Nat.le_refl _) ((Below.refl _ _).alloc (Nat.le_refl _) _)) ((hb.below (Nat.le_refl _) b7).below (Nat.le_refl _) ((Below.refl _ _).alloc (Nat.le_refl _) _)) (by simp) (cell_new rfl rfl) (cell_new rfl rfl) nab).mono ?_
    rintro e w8 ⟨v8, rfl, hown8, hc8⟩
    have b8 := (b7.alloc b7.size (Obj.cells #[Value.slice qa xs.length capa, Value.slice qb ys.length capb] 22)).trans (hc8.mono (Nat.le_trans b7.size (by simp)))
    have hs8 : SliceAt w8 1 v8 ((xs ++ ys).map fun s : ByteArray => [Value.string s]) := own_sliceN rowE_len (by simp) hown8
    clear hown8 hc8
    go_wp2_with (fail)
    refine (cu b8 HAPP.out (ha.below (Nat.le_refl _) b8) hs8 na2 nabl).mono ?_
    rintro e w9 ⟨rfl, b9⟩
    go_wp2_with (fail)
    refine (cu b9 HAB.out (ha.below (Nat.le_refl _) b9) (hb.below (Nat.le_refl _) b9) na2 nb2).mono ?_
    rintro e w10 ⟨rfl, b10⟩
    go_wp2_with (fail)
    go_ret
    exact ⟨rfl, b10⟩
  -- ab=1 ba=0 bc=1 ac=0
  · exact absurd (f2 rfl rfl) (by decide)
  -- ab=1 ba=0 bc=1 ac=1
  · clear f1 f2 f3
    go_wp2_with (fail)
    refine (cu b3 HAB.out (ha.below (Nat.le_refl _) b3) (hb.below (Nat.le_refl _) b3) na2 nb2).mono ?_
    rintro e w4 ⟨rfl, b4⟩
    go_wp2_with (fail)
    refine (cu b4 HBA.out (hb.below (Nat.le_refl _) b4) (ha.below (Nat.le_refl _) b4) nb2 na2).mono ?_
    rintro e w5 ⟨rfl, b5⟩
    go_wp2_with (fail)
    refine (cu b5 HAB.out (ha.below (Nat.le_refl _) b5) (hb.below (Nat.le_refl _) b5) na2 nb2).mono ?_
    rintro e w6 ⟨rfl, b6⟩
    go_wp2_with (fail)
    refine (cu b6 HBC.out (hb.below (Nat.le_refl _) b6) (hc.below (Nat.le_refl _) b6) nb2 nc2).mono ?_
    rintro e w7 ⟨rfl, b7⟩
    go_wp2_with (fail)
    refine (cu b7 HAC.out (ha.below (Nat.le_refl _) b7) (hc.below (Nat.le_refl _) b7) na2 nc2).mono ?_
    rintro e w8 ⟨rfl, b8⟩
    go_wp2_with (fail)
    refine (concat_any _ _ _ xs ys _ ((ha.below (Nat.le_refl _) b8).below (Nat.le_refl _) ((Below.refl _ _).alloc (Nat.le_refl _) _)) ((hb.below (Nat.le_refl _) b8).below (Nat.le_refl _) ((Below.refl _ _).alloc (Nat.le_refl _) _)) (by simp) (cell_new rfl rfl) (cell_new rfl rfl) nab).mono ?_
    rintro e w9 ⟨v9, rfl, hown9, hc9⟩
    have b9 := (b8.alloc b8.size (Obj.cells #[Value.slice qa xs.length capa, Value.slice qb ys.length capb] 22)).trans (hc9.mono (Nat.le_trans b8.size (by simp)))
    have hs9 : SliceAt w9 1 v9 ((xs ++ ys).map fun s : ByteArray => [Value.string s]) := own_sliceN rowE_len (by simp) hown9
    clear hown9 hc9
    go_wp2_with (fail)
    refine (cu b9 HAPP.out (ha.below (Nat.le_refl _) b9) hs9 na2 nabl).mono ?_
    rintro e w10 ⟨rfl, b10⟩
    go_wp2_with (fail)
    refine (cu b10 HAB.out (ha.below (Nat.le_refl _) b10) (hb.below (Nat.le_refl _) b10) na2 nb2).mono ?_
    rintro e w11 ⟨rfl, b11⟩
    go_wp2_with (fail)
    go_ret
    exact ⟨rfl, b11⟩
  -- ab=1 ba=1 bc=0 ac=0
  · obtain rfl : req = true := f1 rfl rfl
    clear f1 f2 f3
    go_wp2_with (fail)
    refine (cu b3 HAB.out (ha.below (Nat.le_refl _) b3) (hb.below (Nat.le_refl _) b3) na2 nb2).mono ?_
    rintro e w4 ⟨rfl, b4⟩
    go_wp2_with (fail)
    refine (cu b4 HBA.out (hb.below (Nat.le_refl _) b4) (ha.below (Nat.le_refl _) b4) nb2 na2).mono ?_
    rintro e w5 ⟨rfl, b5⟩
    go_wp2_with (fail)
    refine (eqstr.equal_any _ _ xs ys _ (ha.below (Nat.le_refl _) b5) (hb.below (Nat.le_refl _) b5) na2 nb2).mono ?_
    rintro e w6 ⟨rfl, g6⟩
    have b6 := below_ext b5 g6
    rw [HEQ.out]
    go_wp2_with (fail)
    refine (cu b6 HAB.out (ha.below (Nat.le_refl _) b6) (hb.below (Nat.le_refl _) b6) na2 nb2).mono ?_
    rintro e w7 ⟨rfl, b7⟩
    go_wp2_with (fail)
    refine (cu b7 HBC.out (hb.below (Nat.le_refl _) b7) (hc.below (Nat.le_refl _) b7) nb2 nc2).mono ?_
    rintro e w8 ⟨rfl, b8⟩
    go_wp2_with (fail)
    refine (concat_any _ _ _ xs ys _ ((ha.below (Nat.le_refl _) b8).below (Nat.le_refl _) ((Below.refl _ _).alloc (Nat.le_refl _) _)) ((hb.below (Nat.le_refl _) b8).below (Nat.le_refl _) ((Below.refl _ _).alloc (Nat.le_refl _) _)) (by simp) (cell_new rfl rfl) (cell_new rfl rfl) nab).mono ?_
    rintro e w9 ⟨v9, rfl, hown9, hc9⟩
    have b9 := (b8.alloc b8.size (Obj.cells #[Value.slice qa xs.length capa, Value.slice qb ys.length capb] 22)).trans (hc9.mono (Nat.le_trans b8.size (by simp)))
    have hs9 : SliceAt w9 1 v9 ((xs ++ ys).map fun s : ByteArray => [Value.string s]) := own_sliceN rowE_len (by simp) hown9
    clear hown9 hc9
    go_wp2_with (fail)
    refine (cu b9 HAPP.out (ha.below (Nat.le_refl _) b9) hs9 na2 nabl).mono ?_
    rintro e w10 ⟨rfl, b10⟩
    go_wp2_with (fail)
    refine (cu b10 HAB.out (ha.below (Nat.le_refl _) b10) (hb.below (Nat.le_refl _) b10) na2 nb2).mono ?_
    rintro e w11 ⟨rfl, b11⟩
    go_wp2_with (fail)
    go_ret
    exact ⟨rfl, b11⟩
  -- ab=1 ba=1 bc=0 ac=1
  · obtain rfl : req = true := f1 rfl rfl
    clear f1 f2 f3
    go_wp2_with (fail)
    refine (cu b3 HAB.out (ha.below (Nat.le_refl _) b3) (hb.below (Nat.le_refl _) b3) na2 nb2).mono ?_
    rintro e w4 ⟨rfl, b4⟩
    go_wp2_with (fail)
    refine (cu b4 HBA.out (hb.below (Nat.le_refl _) b4) (ha.below (Nat.le_refl _) b4) nb2 na2).mono ?_
    rintro e w5 ⟨rfl, b5⟩
    go_wp2_with (fail)
    refine (eqstr.equal_any _ _ xs ys _ (ha.below (Nat.le_refl _) b5) (hb.below (Nat.le_refl _) b5) na2 nb2).mono ?_
    rintro e w6 ⟨rfl, g6⟩
    have b6 := below_ext b5 g6
    rw [HEQ.out]
    go_wp2_with (fail)
    refine (cu b6 HAB.out (ha.below (Nat.le_refl _) b6) (hb.below (Nat.le_refl _) b6) na2 nb2).mono ?_
    rintro e w7 ⟨rfl, b7⟩
    go_wp2_with (fail)
    refine (cu b7 HBC.out (hb.below (Nat.le_refl _) b7) (hc.below (Nat.le_refl _) b7) nb2 nc2).mono ?_
    rintro e w8 ⟨rfl, b8⟩
    go_wp2_with (fail)
    refine (concat_any _ _ _ xs ys _ ((ha.below (Nat.le_refl _) b8).below (Nat.le_refl _) ((Below.refl _ _).alloc (Nat.le_refl _) _)) ((hb.below (Nat.le_refl _) b8).below (Nat.le_refl _) ((Below.refl _ _).alloc (Nat.le_refl _) _)) (by simp) (cell_new rfl rfl) (cell_new rfl rfl) nab).mono ?_
    rintro e w9 ⟨v9, rfl, hown9, hc9⟩
    have b9 := (b8.alloc b8.size (Obj.cells #[Value.slice qa xs.length capa, Value.slice qb ys.length capb] 22)).trans (hc9.mono (Nat.le_trans b8.size (by simp)))
    have hs9 : SliceAt w9 1 v9 ((xs ++ ys).map fun s : ByteArray => [Value.string s]) := own_sliceN rowE_len (by simp) hown9
    clear hown9 hc9
    go_wp2_with (fail)
    refine (cu b9 HAPP.out (ha.below (Nat.le_refl _) b9) hs9 na2 nabl).mono ?_
    rintro e w10 ⟨rfl, b10⟩
    go_wp2_with (fail)
    refine (cu b10 HAB.out (ha.below (Nat.le_refl _) b10) (hb.below (Nat.le_refl _) b10) na2 nb2).mono ?_
    rintro e w11 ⟨rfl, b11⟩
    go_wp2_with (fail)
    go_ret
    exact ⟨rfl, b11⟩
  -- ab=1 ba=1 bc=1 ac=0
  · exact absurd (f2 rfl rfl) (by decide)
  -- ab=1 ba=1 bc=1 ac=1
  · obtain rfl : req = true := f1 rfl rfl
    clear f1 f2 f3
    go_wp2_with (fail)
    refine (cu b3 HAB.out (ha.below (Nat.le_refl _) b3) (hb.below (Nat.le_refl _) b3) na2 nb2).mono ?_
    rintro e w4 ⟨rfl, b4⟩
    go_wp2_with (fail)
    refine (cu b4 HBA.out (hb.below (Nat.le_refl _) b4) (ha.below (Nat.le_refl _) b4) nb2 na2).mono ?_
    rintro e w5 ⟨rfl, b5⟩
    go_wp2_with (fail)
    refine (eqstr.equal_any _ _ xs ys _ (ha.below (Nat.le_refl _) b5) (hb.below (Nat.le_refl _) b5) na2 nb2).mono ?_
    rintro e w6 ⟨rfl, g6⟩
    have b6 := below_ext b5 g6
    rw [HEQ.out]
    go_wp2_with (fail)
    refine (cu b6 HAB.out (ha.below (Nat.le_refl _) b6) (hb.below (Nat.le_refl _) b6) na2 nb2).mono ?_
    rintro e w7 ⟨rfl, b7⟩
    go_wp2_with (fail)
    refine (cu b7 HBC.out (hb.below (Nat.le_refl _) b7) (hc.below (Nat.le_refl _) b7) nb2 nc2).mono ?_
    rintro e w8 ⟨rfl, b8⟩
    go_wp2_with (fail)
    refine (cu b8 HAC.out (ha.below (Nat.le_refl _) b8) (hc.below (Nat.le_refl _) b8) na2 nc2).mono ?_
    rintro e w9 ⟨rfl, b9⟩
    go_wp2_with (fail)
    refine (concat_any _ _ _ xs ys _ ((ha.below (Nat.le_refl _) b9).below (Nat.le_refl _) ((Below.refl _ _).alloc (Nat.le_refl _) _)) ((hb.below (Nat.le_refl _) b9).below (Nat.le_refl _) ((Below.refl _ _).alloc (Nat.le_refl _) _)) (by simp) (cell_new rfl rfl) (cell_new rfl rfl) nab).mono ?_
    rintro e w10 ⟨v10, rfl, hown10, hc10⟩
    have b10 := (b9.alloc b9.size (Obj.cells #[Value.slice qa xs.length capa, Value.slice qb ys.length capb] 22)).trans (hc10.mono (Nat.le_trans b9.size (by simp)))
    have hs10 : SliceAt w10 1 v10 ((xs ++ ys).map fun s : ByteArray => [Value.string s]) := own_sliceN rowE_len (by simp) hown10
    clear hown10 hc10
    go_wp2_with (fail)
    refine (cu b10 HAPP.out (ha.below (Nat.le_refl _) b10) hs10 na2 nabl).mono ?_
    rintro e w11 ⟨rfl, b11⟩
    go_wp2_with (fail)
    refine (cu b11 HAB.out (ha.below (Nat.le_refl _) b11) (hb.below (Nat.le_refl _) b11) na2 nb2).mono ?_
    rintro e w12 ⟨rfl, b12⟩
    go_wp2_with (fail)
    go_ret
    exact ⟨rfl, b12⟩
end Go.Proofs.Ytdjnhbaipfkiaaa.lawPathOrders
