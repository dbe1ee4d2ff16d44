/-
  inode.Check, inode.Write: the walks.
-/
import Derived.Test.YtdjnhbaipfkiaaaRight
import Derived.Test.YtdjnhbaipfkiaaaFix
namespace Go.Proofs.Ytdjnhbaipfkiaaa.inode
open Go.RowKit kit Go.Proofs.Ytdjnhbaipfkiaaa.imap Go.Proofs.Ytdjnhbaipfkiaaa.fix
set_option linter.unusedVariables false

/-- an inode that may stand -/
def GoodI (k g z : Int) (ps : List (Int × Int)) : Prop := (k = 1 ∨ k = 2) ∧ 0 ≤ g ∧ g ≤ 2147483647 ∧ 0 ≤ z ∧ z ≤ 4096 ∧ (ps.length : Int) = (z + 511) / 512 ∧ ∀ p ∈ ps, Okay p
def CheckSays (k g z : Int) (ps : List (Int × Int)) (e : Ending) : Prop := (GoodI k g z ps ∧ e = .returned (.int .i64 0)) ∨ (¬ GoodI k g z ps ∧ ∃ c : Nat, c ≠ 0 ∧ e = .returned (.int .i64 c))

set_option maxHeartbeats 1000000 in
set_option maxRecDepth 100000 in
theorem check_any (k g z : Int) (v : Value) (ps : List (Int × Int)) (W : World) (hs : SliceAt W 2 v (ps.map rowP)) (hk : (Lit.int .i64 k).wf = true) (hg : (Lit.int .i64 g).wf = true) (hz : (Lit.int .i64 z).wf = true) (hl : ps.length ≤ 1000000000000000) :
    Calls Try.prog 56 #[.agg #[.int .i64 k, .int .i64 g, .int .i64 z, v]] W fun e w' => CheckSays k g z ps e ∧ Below W.heap.size W w' := by
  obtain ⟨q, cap, b, off, rfl, hq, hc⟩ := hs.view
  simp only [List.length_map] at hq ⊢
  have HQ := Lib.hid hq
  have HC : Hid (∀ i p, ps[i]? = some p → W.cell? ⟨b, off + i * 2, none⟩ = some (.int .i64 p.1) ∧ W.cell? ⟨b, off + i * 2 + 1, none⟩ = some (.int .i64 p.2)) := fun i p hx => by
    have h := hc i (rowP p) (by rw [List.getElem?_map, hx]; rfl)
    exact ⟨h 0 _ rfl, h 1 _ rfl⟩
  clear hs hq hc
  have hk2 := i64_bd hk
  have hg2 := i64_bd hg
  have hz2 := i64_bd hz
  have hb0 := (Below.refl W.heap.size W).alloc (Nat.le_refl _) (Obj.cells #[Value.int .i64 k, Value.int .i64 g, Value.int .i64 z, Value.slice q ps.length cap] 58)
  have hlI : (ps.length : Int) ≤ 1000000000000000 := by omega
  clear hk hg hz
  by_cases h1 : k = 1 ∨ k = 2
  · by_cases h2 : g < 0
    · have hbad : ¬ GoodI k g z ps := fun h => by have := h.2.1; omega
      have HB := Lib.hid hbad
      clear hbad
      rcases h1 with rfl | rfl
      all_goals
        go_enter Try.func56, Try.ntmps56
        go_wp2_with (fail)
        go_ret
        exact ⟨.inr ⟨HB.out, 1, by decide, rfl⟩, hb0⟩
    · by_cases h3 : 2147483647 < g
      · have hbad : ¬ GoodI k g z ps := fun h => by have := h.2.2.1; omega
        have HB := Lib.hid hbad
        clear hbad
        rcases h1 with rfl | rfl
        all_goals
          go_enter Try.func56, Try.ntmps56
          go_wp2_with (fail)
          go_ret
          exact ⟨.inr ⟨HB.out, 1, by decide, rfl⟩, hb0⟩
      · by_cases h4 : z < 0
        · have hbad : ¬ GoodI k g z ps := fun h => by have := h.2.2.2.1; omega
          have HB := Lib.hid hbad
          clear hbad
          rcases h1 with rfl | rfl
          all_goals
            go_enter Try.func56, Try.ntmps56
            go_wp2_with (fail)
            go_ret
            exact ⟨.inr ⟨HB.out, 2, by decide, rfl⟩, hb0⟩
        · by_cases h5 : 4096 < z
          · have hbad : ¬ GoodI k g z ps := fun h => by have := h.2.2.2.2.1; omega
            have HB := Lib.hid hbad
            clear hbad
            rcases h1 with rfl | rfl
            all_goals
              go_enter Try.func56, Try.ntmps56
              go_wp2_with (fail)
              go_ret
              exact ⟨.inr ⟨HB.out, 2, by decide, rfl⟩, hb0⟩
          · obtain ⟨zn, rfl⟩ : ∃ n : Nat, z = (n : Int) := ⟨z.toNat, by omega⟩
            obtain ⟨qn, hqn⟩ : ∃ qn : Nat, ((zn : Int) + 511) / 512 = (qn : Int) := ⟨(zn + 511) / 512, by omega⟩
            have hq1 : ((zn : Int) + 512 - 1) / 512 = (qn : Int) := by rw [← hqn]; congr 1; omega
            by_cases h6 : (ps.length : Int) = (qn : Int)
            · have h6b : ((ps.length : Int) != (qn : Int)) = false := by simpa using h6
              have hgood : ∀ (hp : ∀ p ∈ ps, Okay p), GoodI k g zn ps := fun hp => ⟨h1, by omega, by omega, by omega, by omega, by omega, hp⟩
              have HGD := Lib.hid hgood
              clear hgood
              rcases h1 with rfl | rfl
              all_goals
                go_enter Try.func56, Try.ntmps56
                go_wp2_with (fail)
                go_loopw [43] (fun y wr => ∃ i : Nat, i ≤ ps.length ∧ y = .int .i64 i ∧ Hid (∀ p ∈ ps.take i, Okay p) ∧ Below W.heap.size W wr) (fun y _ => ps.length - (intOf y).toNat)
                case atStart => exact ⟨0, Nat.zero_le _, rfl, by intro p hp; simp at hp, hb0⟩
                case round =>
                  obtain ⟨i, hi, rfl, hok, hb⟩ := hrel
                  by_cases hlt : i < ps.length
                  · obtain ⟨rfl, hblk⟩ := HQ.out i hlt
                    obtain ⟨⟨c, n⟩, hp⟩ : ∃ p, ps[i]? = some p := ⟨_, List.getElem?_eq_getElem hlt⟩
                    have d0 : wr.cell? ⟨b, off + i * 2, none⟩ = some (.int .i64 c) := (hb.cell (p := ⟨b, off + i * 2, none⟩) hblk).trans (HC.out i _ hp).1
                    have d1 : wr.cell? ⟨b, off + i * 2 + 1, none⟩ = some (.int .i64 n) := (hb.cell (p := ⟨b, off + i * 2 + 1, none⟩) hblk).trans (HC.out i _ hp).2
                    have hltI : (i : Int) < (ps.length : Int) := by omega
                    have HP := Lib.hid hp
                    have HI := Lib.hid hltI
                    clear hp
                    go_wp2_with (fail)
                    refine (right_any c n _).mono ?_
                    rintro e w1 ⟨rfl, hb1⟩
                    have hb2 := (hb.alloc hb.size (Obj.cells #[Value.int .i64 c, Value.int .i64 n] 45)).trans (hb1.mono (Nat.le_trans hb.size (by simp)))
                    clear d0 d1 hb hb1
                    by_cases hr : Okay (c, n)
                    · rw [decide_eq_true hr]
                      have hnext : Hid (∀ p ∈ ps.take (i + 1), Okay p) := fun p hp => by
                        rw [take_one HP.out] at hp
                        rcases List.mem_append.1 hp with h | h
                        · exact hok.out p h
                        · simp only [List.mem_singleton] at h
                          rw [h]; exact hr
                      clear hr
                      go_wp2_with (fail)
                      exact ⟨⟨i + 1, by omega, rfl, hnext, hb2⟩, by show ps.length - (((i : Int) + 1).toNat) < ps.length - ((i : Int).toNat); omega⟩
                    · rw [decide_eq_false hr]
                      have hbad : Hid (∀ kk, ¬ GoodI kk g zn ps) := fun kk h => hr (h.2.2.2.2.2.2 _ (List.mem_of_getElem? HP.out))
                      clear hr
                      go_wp2_with (fail)
                      go_ret
                      exact ⟨.inr ⟨hbad.out _, 4, by decide, rfl⟩, hb2⟩
                  · have hie : i = ps.length := by omega
                    subst hie
                    rw [List.take_length] at hok
                    have hgd := Lib.hid (HGD.out hok.out)
                    go_wp2_with (fail)
                    go_ret
                    exact ⟨.inl ⟨hgd.out, rfl⟩, hb⟩
            · have h6b : ((ps.length : Int) != (qn : Int)) = true := by simpa using h6
              have hbad : ¬ GoodI k g zn ps := fun h => by have := h.2.2.2.2.2.1; omega
              have HB := Lib.hid hbad
              clear hbad h6
              rcases h1 with rfl | rfl
              all_goals
                go_enter Try.func56, Try.ntmps56
                go_wp2_with (fail)
                go_ret
                exact ⟨.inr ⟨HB.out, 4, by decide, rfl⟩, hb0⟩
  · have hbad : ¬ GoodI k g z ps := fun h => h1 h.1
    have HB := Lib.hid hbad
    have k1 : (k != 1) = true := by simp; omega
    have k2 : (k != 2) = true := by simp; omega
    clear hbad h1
    go_enter Try.func56, Try.ntmps56
    go_wp2_with (fail)
    go_ret
    exact ⟨.inr ⟨HB.out, 1, by decide, rfl⟩, hb0⟩
end Go.Proofs.Ytdjnhbaipfkiaaa.inode
