/-
  ScanOrder: what the walks need (printed by gen_scanorder.py).
-/
import Derived.Test.YtkkgmgffkjeklaaEntryEq
import Derived.Test.YtkkgmgffkjeklaaOrderLaw
import Derived.Test.YtkkgmgffkjeklaaWithin
import Derived.Test.YtkkgmgffkjeklaaBlobWrite
import Derived.Test.YtkkgmgffkjeklaaSlOwn
import Derived.Test.YtkkgmgffkjeklaaOpen2
namespace Go.Proofs.Ytkkgmgffkjeklaa.lawScanOrder
open Go.RowKit kit sl Go.Proofs.Ytkkgmgffkjeklaa.use Go.Proofs.Ytkkgmgffkjeklaa.blob Go.Proofs.Ytkkgmgffkjeklaa.seal Go.Proofs.Ytkkgmgffkjeklaa.disk Go.Proofs.Ytkkgmgffkjeklaa.within
set_option linter.unusedVariables false
abbrev LB := List Blob × Option Addr × Nat
def rowB (r : LB) : List Value := [.slice r.2.1 r.1.length r.2.2]
def lotB (r : LB) : Value × List (List Value) := (.slice r.2.1 r.1.length r.2.2, r.1.map fBl)
def toSE (r : LRow) : SEnt := ((r.2.1 : Int), r.2.2.1, r.2.2.2.1, r.2.2.2.2.1, r.2.2.2.2.2)
def lotL (r : LRow) : Value × List (List Value) := (.slice r.2.2.2.2.1 r.2.2.1.length r.2.2.2.2.2, r.2.2.1.map fBl)
theorem one_fSE : ∀ y, ∀ u ∈ fSE y, u.oneCell' = true := fun y u h => by
  simp only [fSE, List.mem_cons, List.not_mem_nil, or_false] at h
  rcases h with rfl | rfl | rfl <;> rfl
def zsF (lb : List LB) (i : Nat) : List Blob := (lb.getD i ([], none, 0)).1
def laF (bs : List Bool) (i : Nat) : Bool := bs.getD i false
theorem within_ct (k n : Int) (h1 : 1 ≤ n) (h2 : n ≤ 9223372036854775807) : Ct Try.prog 19 [.int .i64 k, .int .i64 n] [] fun v H' => v = .int .i64 (withinF k n) ∧ H' = [] :=
  ct_of_calls fun W _ => (within_any k n h1 h2 W).mono fun e w' ⟨h1, h2⟩ => ⟨h1, by rw [h2]; exact Below.refl _ _⟩
theorem at_mod {n t i : Nat} (ht : t < n) (hi : i < n) : 2 + ((i : Int) + (t : Int)) % (n : Int) = ((atP n t i : Nat) : Int) := by
  have e : ((i : Int) + (t : Int)) % (n : Int) = (((i + t) % n : Nat) : Int) := by rw [← Int.natCast_add, ← Int.natCast_emod]
  rw [e]
  unfold atP
  split
  · rename_i h
    rw [Nat.mod_eq_of_lt h]
    omega
  · rename_i h
    rw [Nat.mod_eq_sub_mod (by omega), Nat.mod_eq_of_lt (by omega)]
    omega
theorem bad_none {cs : List ByteArray} (h1 : 1 ≤ cs.length ∧ cs.length ≤ 128) (h2 : ∀ s ∈ cs, s.size ≤ 1024) : checkD cs [] = 0 := by
  unfold checkD
  rw [if_neg (by omega), if_neg, if_neg (fun h => h rfl), if_neg (by decide)]
  intro h
  obtain ⟨s, hs, hb⟩ := List.any_eq_true.1 h
  have := h2 s hs
  unfold bigCell at hb
  simp at hb
  omega
theorem cells_small {n t : Nat} {A : Int} {zs : Nat → List Blob} {la : Nat → Bool} (ht : t < n) (hw : ∀ j, j < n → writeE (zs j) = 0) : ∀ s ∈ cellsC n t (bodyC A zs la) n, s.size ≤ 1024 := fun s hs => by
  unfold cellsC at hs
  obtain ⟨k, hk, rfl⟩ := List.mem_map.1 hs
  rw [List.mem_range] at hk
  rw [str_size]
  unfold textC
  split
  · rename_i h
    show (sealB _ _ _).length ≤ _
    rw [sealB_len]
    have := (read_write (la (invP n t k)) (hw _ h.2)).1
    omega
  · exact Nat.zero_le _
theorem run_order {n t : Nat} {A : Int} {zs : Nat → List Blob} {la : Nat → Bool} (q : Option Addr) (c : Nat) (ht : t < n) (hn : n ≤ 100) (ha : 0 ≤ A ∧ A + (n : Int) ≤ 2147483647) (hw : ∀ j, j < n → writeE (zs j) = 0) :
    Ct Try.prog 15 [.agg #[.slice q (n + 2) c, .slice none 0 0], .int .i64 A] [sl 1 (.slice q (n + 2) c) ((cellsC n t (bodyC A zs la) n).map fS), sl 2 (.slice none 0 0) (([] : Waits).map fP)]
      fun v H' => ∃ (tab outs : List LRow) (q : Option Addr) (c : Nat), (outs.length = n ∧ (∀ (j : Nat) (r : LRow), outs[j]? = some r → r.1 = A + 1 + (j : Int) ∧ r.2.1 = atP n t j ∧ r.2.2.1 = zs j ∧ r.2.2.2.1 = la j) ∧ ∀ r ∈ outs, r ∈ tab) ∧ v = .tuple #[.slice q (wholeW la n) (wholeW la n), .int .i64 (A + (n : Int)), .int .i64 0] ∧ H' = [own (.slice q outs.length c) 49 3 outs.length (flat fEn outs), bundle (tab.map rowL)] := by
  have R0 := run_any q none c 0 (cellsC n t (bodyC A zs la) n) [] A (by rw [cellsC_len]; unfold maxLen; omega) (by decide)
  rw [cellsC_len] at R0
  refine ct_mono R0 fun v H' h => ?_
  rcases h with ⟨tab, outs, q', c', h1, h2, h3⟩ | ⟨h1, _⟩
  · obtain ⟨f1, f2, f3, f4, f5⟩ := order_law ht ha hw h1
    rw [f3, f4] at h2
    exact ⟨tab, outs, q', c', ⟨f1, f2, f5⟩, h2, h3⟩
  · exact absurd ⟨bad_none (by rw [cellsC_len]; omega) (cells_small ht hw), by omega, by omega⟩ h1
theorem run_zero (q : Option Addr) (c : Nat) {A : Int} (ha : 0 ≤ A ∧ A ≤ 2147483647) :
    Ct Try.prog 15 [.agg #[.slice q 2 c, .slice none 0 0], .int .i64 A] [sl 1 (.slice q 2 c) ((List.replicate 2 (str []) : List ByteArray).map fS), sl 2 (.slice none 0 0) (([] : Waits).map fP)]
      fun v H' => ∃ (tab outs : List LRow) (q : Option Addr) (c : Nat), v = .tuple #[.slice q 0 0, .int .i64 A, .int .i64 0] ∧ H' = [own (.slice q outs.length c) 49 3 outs.length (flat fEn outs), bundle (tab.map rowL)] := by
  refine ct_mono (run_any q none c 0 [str [], str []] [] A (by decide) (by decide)) fun v H' h => ?_
  rcases h with ⟨tab, outs, q', c', ⟨_, _, h1, h4, _⟩, h2, h3⟩ | ⟨h1, _⟩
  · rw [scan_end _ _ (by decide)] at h1
    have ht : tab = [] := by simpa using h1
    subst ht
    have ho : outs = [] := by
      cases outs with
      | nil => rfl
      | cons r l => cases h4 0 r rfl
    subst ho
    exact ⟨[], [], q', c', h2, h3⟩
  · exact absurd ⟨bad_none ⟨by decide, by decide⟩ (by intro s hs; simp at hs; subst hs; decide), ha.1, ha.2⟩ h1
theorem sh_three {W : World} {s1 s2 s3 : Nat} {v v3 : Value} {rows rows3 : List (List Value)} {l : Lots} (h1 : SliceAt W s1 v rows) (h2 : ∀ x ∈ l, SliceAt W s2 x.1 x.2) (h3 : SliceAt W s3 v3 rows3) : ∀ e ∈ [sl s1 v rows, many s2 l, sl s3 v3 rows3], e.excl = false ∧ e.holds W := fun e he => by
  rcases List.mem_cons.1 he with rfl | he
  · exact ⟨rfl, h1⟩
  · rcases List.mem_cons.1 he with rfl | he
    · exact ⟨rfl, h2⟩
    · rw [List.mem_singleton.1 he]
      exact ⟨rfl, h3⟩
theorem view_none (S : List Ent) (sz : Nat) : View S (many sz []) := ⟨rfl, fun w _ x hx => absurd hx List.not_mem_nil, fun b ⟨x, hx, _⟩ => absurd hx List.not_mem_nil⟩
end Go.Proofs.Ytkkgmgffkjeklaa.lawScanOrder
