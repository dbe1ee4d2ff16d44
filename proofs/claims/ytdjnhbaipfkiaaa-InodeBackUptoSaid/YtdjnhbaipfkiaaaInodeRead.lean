/-
  inode.Read: the walk.
-/
import Derived.Test.YtdjnhbaipfkiaaaInodeWrite
import Derived.Test.YtdjnhbaipfkiaaaRow2
import Derived.Test.YtdjnhbaipfkiaaaStepN
import Derived.Test.YtdjnhbaipfkiaaaImapOps
namespace Go.Proofs.Ytdjnhbaipfkiaaa.inode
open Go.RowKit kit Go.Proofs.Ytdjnhbaipfkiaaa.imap Go.Proofs.Ytdjnhbaipfkiaaa.fix
set_option linter.unusedVariables false

def pairs : List UInt8 → List (Int × Int)
  | a :: b :: r => ((a.toNat : Int), (b.toNat : Int)) :: pairs r
  | _ => []
theorem pairs_len : ∀ (n : Nat) (l : List UInt8), l.length = 2 * n → (pairs l).length = n := by
  intro n
  induction n with
  | zero => intro l h; have : l = [] := List.eq_nil_of_length_eq_zero (by omega); subst this; rfl
  | succ n ih =>
    intro l h
    match l, h with
    | a :: b :: r, h => rw [pairs, List.length_cons, ih r (by simp at h; omega)]
theorem pairs_at : ∀ (n : Nat) (l : List UInt8), l.length = 2 * n → ∀ (j : Nat) (a b : UInt8), l[2 * j]? = some a → l[2 * j + 1]? = some b → (pairs l)[j]? = some ((a.toNat : Int), (b.toNat : Int)) := by
  intro n
  induction n with
  | zero => intro l h j a b h1 h2; have : l = [] := List.eq_nil_of_length_eq_zero (by omega); subst this; simp at h1
  | succ n ih =>
    intro l h j a b h1 h2
    match l, h with
    | x :: y :: r, h =>
      cases j with
      | zero => simp at h1 h2; subst h1 h2; rfl
      | succ j =>
        rw [show 2 * (j + 1) = 2 * j + 1 + 1 from by omega] at h1 h2
        simp only [List.getElem?_cons_succ] at h1 h2
        rw [pairs, List.getElem?_cons_succ]
        exact ih r (by simp at h; omega) j a b h1 h2
def kR (l : List UInt8) : Nat := (l.headD 0).toNat
def gR (l : List UInt8) : Nat := unfixN ((l.drop 1).take 4)
def zR (l : List UInt8) : Nat := unfixN ((l.drop 5).take 2)
def pR (l : List UInt8) : List (Int × Int) := pairs (l.drop 7)
def zero4 : Value := .agg #[.int .i64 0, .int .i64 0, .int .i64 0, .slice none 0 0]
def ReadSays (s : ByteArray) (e : Ending) (w' : World) : Prop :=
  ((s.size < 7 ∨ s.size % 2 = 0 ∨ ¬ GoodI (kR s.data.toList) (gR s.data.toList) (zR s.data.toList) (pR s.data.toList)) ∧ e = .returned (.tuple #[zero4, .int .i64 4])) ∨
  (7 ≤ s.size ∧ s.size % 2 = 1 ∧ GoodI (kR s.data.toList) (gR s.data.toList) (zR s.data.toList) (pR s.data.toList) ∧
    ∃ v, e = .returned (.tuple #[.agg #[.int .i64 (kR s.data.toList : Int), .int .i64 (gR s.data.toList : Int), .int .i64 (zR s.data.toList : Int), v], .int .i64 0]) ∧ SliceAt w' 2 v ((pR s.data.toList).map rowP))

theorem byte_at (s : ByteArray) (i : Nat) (h : i < s.size) : s.data.toList[i]? = some (s[i]'h) := by
  rw [List.getElem?_eq_getElem (by rw [← Lib.size_eq]; exact h)]
  rfl
theorem own_setT {w : World} {C e sz n G J f : Nat} {v u : Value} {xs : List Value} {cs : Array Value} {fr : Nat × Nat} (h : w.ownsRow C e sz v n xs) (hG : w.heap[G]? = some (.cells cs f fr)) (hne : f ≠ e) : (w.setCell ⟨G, J, none⟩ u).ownsRow C e sz v n xs := by
  refine ⟨h.1, ?_⟩
  rcases h.2 with h2 | ⟨g, cap, cur, rfl, hb, hg, r⟩
  · exact .inl h2
  · refine .inr ⟨g, cap, cur, rfl, hb, ?_, r⟩
    have hgG : g ≠ G := by
      intro e2
      subst e2
      rw [hG] at hg
      simp at hg
      exact hne hg.2.1
    rw [heap_setCell_other _ _ _ _ (by simpa using hgG)]
    exact hg
def RB (k g z : Nat) : Prop := k ≤ 255 ∧ g < 4294967296 ∧ z < 65536
theorem wrapi_nat (n : Nat) (h : n < 4294967296) : IntKind.i64.wrap (n : Int) = (n : Int) := by rw [IntKind.wrap_i64]; omega
theorem wrap64_nat (n : Nat) (h : n < 4294967296) : wrap64 (n : Int) = (n : Int) := IntWalk.wrap64_in _ (by omega)
theorem size58 : (Try.prog.info? 58).map (·.size) = some 4 := by kernel_rfl

set_option maxHeartbeats 1000000 in
set_option maxRecDepth 100000 in
theorem read_any (s : ByteArray) (hs : s.size ≤ 4000000) (W : World) :
    Calls Try.prog 29 #[.string s] W fun e w' => ReadSays s e w' ∧ Below W.heap.size W w' := by
  have hu58 := Try.underlying58
  by_cases h7 : s.size < 7
  · go_enter Try.func29, Try.ntmps29
    go_wp2_with (fail)
    refine bodyPost_ret_by (v := .tuple #[zero4, .int .i64 4]) (results_cell2 (ty := 58) rfl _ _ W.heap.size _ #[Value.int .i64 0, Value.int .i64 0, Value.int .i64 0, Value.slice none 0 0] _ _ rfl (heap_alloc_new _ _) hu58 rfl size58 _ rfl) rfl ⟨.inl ⟨.inl h7, rfl⟩, (Below.refl _ _).alloc (Nat.le_refl _) _⟩
  · by_cases h2 : s.size % 2 = 0
    · have h2I : (s.size : Int) % 2 = 0 := by omega
      go_enter Try.func29, Try.ntmps29
      go_wp2_with (fail)
      refine bodyPost_ret_by (v := .tuple #[zero4, .int .i64 4]) (results_cell2 (ty := 58) rfl _ _ W.heap.size _ #[Value.int .i64 0, Value.int .i64 0, Value.int .i64 0, Value.slice none 0 0] _ _ rfl (heap_alloc_new _ _) hu58 rfl size58 _ rfl) rfl ⟨.inl ⟨.inr (.inl h2), rfl⟩, (Below.refl _ _).alloc (Nat.le_refl _) _⟩
    · have h2I : ((s.size : Int) % 2 == 0) = false := by simp; omega
      have h0 : 0 < s.size := by omega
      have hba := byte_at s
      obtain ⟨L, hL⟩ : ∃ L, L = s.data.toList := ⟨_, rfl⟩
      rw [← hL] at hba
      have hLs : L.length = s.size := by rw [hL, ← Lib.size_eq]
      obtain ⟨m, hm⟩ : ∃ m : Nat, s.size = 7 + 2 * m := ⟨(s.size - 7) / 2, by omega⟩
      have hk0 : (s[0]'h0).toNat = kR L := by
        have h9 := hba 0 h0
        unfold kR
        cases L with
        | nil => simp at h9
        | cons a r => simp at h9; simp [h9]
      have hg0 : unfixN (s.extract 1 5).data.toList = gR L := by rw [Lib.extract_data, ← hL]; simp [gR]
      have hz0 : unfixN (s.extract 5 7).data.toList = zR L := by rw [Lib.extract_data, ← hL]; simp [zR]
      have bk : kR L ≤ 255 := by rw [← hk0]; have := (s[0]'h0).toNat_lt; omega
      have bg : gR L < 4294967296 := by
        have := unfixN_lt ((L.drop 1).take 4)
        rw [show ((L.drop 1).take 4).length = 4 from by simp; omega] at this
        unfold gR; omega
      have bz : zR L < 65536 := by
        have := unfixN_lt ((L.drop 5).take 2)
        rw [show ((L.drop 5).take 2).length = 2 from by simp; omega] at this
        unfold zR; omega
      have hpl : (pR L).length = m := pairs_len m _ (by simp; omega)
      have hpa : ∀ j, j < m → ∃ (h1 : 7 + 2 * j < s.size) (h2 : 7 + 2 * j + 1 < s.size), (pR L)[j]? = some (((s[7 + 2 * j]'h1).toNat : Int), ((s[7 + 2 * j + 1]'h2).toNat : Int)) := fun j hj => by
        refine ⟨by omega, by omega, ?_⟩
        refine pairs_at m _ (by simp; omega) j _ _ ?_ ?_
        · rw [List.getElem?_drop]; exact hba _ _
        · rw [List.getElem?_drop, show 7 + (2 * j + 1) = 7 + 2 * j + 1 from by omega]; exact hba _ _
      obtain ⟨kn, hkn⟩ : ∃ n, n = kR L := ⟨_, rfl⟩
      obtain ⟨gn, hgn⟩ : ∃ n, n = gR L := ⟨_, rfl⟩
      obtain ⟨zn, hzn⟩ : ∃ n, n = zR L := ⟨_, rfl⟩
      obtain ⟨P, hP⟩ : ∃ P, P = pR L := ⟨_, rfl⟩
      rw [← hkn] at hk0 bk
      rw [← hgn] at hg0 bg
      rw [← hzn] at hz0 bz
      rw [← hP] at hpl hpa
      have hk0I : ((s[0]'h0).toNat : Int) = (kn : Int) := by omega
      have bkI : (kn : Int) ≤ 255 := by omega
      have bgI : (gn : Int) < 4294967296 := by omega
      have bzI : (zn : Int) < 65536 := by omega
      have hsI : (s.size : Int) ≤ 4000000 := by omega
      have h7I : (7 : Int) ≤ (s.size : Int) := by omega
      have hrs : (∀ e w', (¬ GoodI kn gn zn P ∧ e = .returned (.tuple #[zero4, .int .i64 4])) ∨ (GoodI kn gn zn P ∧ ∃ v, e = .returned (.tuple #[.agg #[.int .i64 (kn : Int), .int .i64 (gn : Int), .int .i64 (zn : Int), v], .int .i64 0]) ∧ SliceAt w' 2 v (P.map rowP)) → ReadSays s e w') := fun e w' h => by
        unfold ReadSays
        rw [← hL, ← hkn, ← hgn, ← hzn, ← hP]
        rcases h with ⟨h1, h3⟩ | ⟨h1, h3⟩
        · exact .inl ⟨.inr (.inr h1), h3⟩
        · exact .inr ⟨by omega, by omega, h1, h3⟩
      have HRS := Lib.hid hrs
      have HPA := Lib.hid hpa
      have HG0 := Lib.hid hg0
      have HZ0 := Lib.hid hz0
      have HM := Lib.hid hm
      have HPL := Lib.hid hpl
      clear hrs hpa hg0 hz0 hm hpl hkn hgn hzn hP hLs hba hL hk0 h7I hsI
      have HK0 := Lib.hid hk0I
      clear hk0I
      have HRB : RB kn gn zn := ⟨bk, bg, bz⟩
      have wk1 := wrapi_nat kn (by omega)
      have wk2 := wrap64_nat kn (by omega)
      have wg1 := wrapi_nat gn bg
      have wg2 := wrap64_nat gn bg
      have wz1 := wrapi_nat zn (by omega)
      have wz2 := wrap64_nat zn (by omega)
      clear bk bg bz bkI bgI bzI
      have e1 : (s.extract 1 5).size ≤ 8 := by rw [ByteArray.size_extract]; omega
      have e2 : (s.extract 5 7).size ≤ 8 := by rw [ByteArray.size_extract]; omega
      have E1 := Lib.hid e1
      have E2 := Lib.hid e2
      clear e1 e2
      go_enter Try.func29, Try.ntmps29
      go_wp2_with (fail)
      refine (unfix_any _ E1.out _).mono ?_
      rintro e w1 ⟨rfl, rfl⟩
      rw [HG0.out]
      go_wp2_with (fail)
      refine (unfix_any _ E2.out _).mono ?_
      rintro e w1 ⟨rfl, rfl⟩
      rw [HZ0.out]
      have hk0I := HK0.out
      go_wp2_with (fail)
      obtain ⟨WA, hWA⟩ : ∃ WA, (W.alloc (Obj.cells #[Value.int .i64 0, Value.int .i64 0, Value.int .i64 0, Value.slice none 0 0] 58)).alloc (Obj.cells #[Value.int .i64 (kn : Int), Value.int .i64 (gn : Int), Value.int .i64 (zn : Int), Value.slice none 0 0] 58) = WA := ⟨_, rfl⟩
      have hbA : Below W.heap.size W WA := by rw [← hWA]; exact ((Below.refl _ _).alloc (Nat.le_refl _) _).alloc (by simp) _
      have xR : WA.heap[W.heap.size]? = some (.cells #[Value.int .i64 0, Value.int .i64 0, Value.int .i64 0, Value.slice none 0 0] 58 (0, 0)) := by rw [← hWA, heap_alloc_old _ _ (by simp)]; exact heap_alloc_new _ _
      have xN : WA.heap[W.heap.size + 1]? = some (.cells #[Value.int .i64 (kn : Int), Value.int .i64 (gn : Int), Value.int .i64 (zn : Int), Value.slice none 0 0] 58 (0, 0)) := by
        rw [← hWA]
        have := heap_alloc_new (W.alloc (Obj.cells #[Value.int .i64 0, Value.int .i64 0, Value.int .i64 0, Value.slice none 0 0] 58)) (Obj.cells #[Value.int .i64 (kn : Int), Value.int .i64 (gn : Int), Value.int .i64 (zn : Int), Value.slice none 0 0] 58)
        simpa using this
      rw [hWA]
      obtain ⟨R, hR⟩ : ∃ R, W.heap.size = R := ⟨_, rfl⟩
      rw [hR] at xR xN ⊢
      have hRl : W.heap.size ≤ R := by omega
      clear hWA hR wk1 wk2 wg1 wg2 wz1 wz2 hk0I HG0 HZ0 E1 E2
      go_loopw [9] (fun y wr => ∃ (j i : Nat) (pv : Value), j ≤ m ∧ Hid (i = 7 + 2 * j) ∧ y = .int .i64 i ∧ wr.heap[R]? = some (.cells #[Value.int .i64 0, Value.int .i64 0, Value.int .i64 0, Value.slice none 0 0] 58 (0, 0)) ∧ wr.heap[R + 1]? = some (.cells #[Value.int .i64 (kn : Int), Value.int .i64 (gn : Int), Value.int .i64 (zn : Int), pv] 58 (0, 0)) ∧ wr.ownsRow W.heap.size 45 2 pv j (flat rowP (P.take j)) ∧ Below W.heap.size W wr) (fun y _ => s.size - (intOf y).toNat)
      case atStart => exact ⟨0, 7, .slice none 0 0, by omega, rfl, rfl, xR, xN, World.ownsRow_nil _ _ _ _, hbA⟩
      case round =>
        clear xR xN hbA
        obtain ⟨j, i, pv, hj, hij, rfl, xR, xN, hown, hb⟩ := hrel
        obtain ⟨q, cap, rfl, hq⟩ := own_lenN hown
        have hsz := hb.size
        have c3 : wr.cell? ⟨R + 1, 3, none⟩ = some (Value.slice q j cap) := by rw [cell_of_row _ _ _ _ _ _ xN]; rfl
        by_cases hlt : j < m
        · have hX : ∃ (h1 : i < s.size) (h2 : i + 1 < s.size), P[j]? = some (((s[i]'h1).toNat : Int), ((s[i + 1]'h2).toNat : Int)) := by
            have h9 : i = 7 + 2 * j := hij.out
            subst h9
            exact HPA.out j hlt
          obtain ⟨h1, h2, hp⟩ := hX
          have h1I : (i : Int) < (s.size : Int) := by omega
          have h2I' : (i : Int) + 1 < (s.size : Int) := by omega
          have hsI : (s.size : Int) ≤ 4000000 := by omega
          have wa := wrapi_nat (s[i]'h1).toNat (by have := (s[i]'h1).toNat_lt; omega)
          have wb := wrapi_nat (s[i + 1]'h2).toNat (by have := (s[i + 1]'h2).toNat_lt; omega)
          have h3I : (0 : Int) ≤ (i : Int) + 1 := by omega
          have wi : IntKind.i64.wrap ((i : Int) + 1) = (i : Int) + 1 := by rw [IntKind.wrap_i64]; omega
          have hne := own_typeN hown xN (by decide)
          have hneR := own_typeN hown xR (by decide)
          have hjm : (j + 1) * 16 ≤ 140737488355328 := by have := HM.out; omega
          have hjm2 : j + 1 ≤ maxLen := by have := HM.out; unfold maxLen; omega
          have hlR := (Array.getElem?_eq_some_iff.1 xR).1
          have hlN := (Array.getElem?_eq_some_iff.1 xN).1
          have HP := Lib.hid hp
          have HJ := Lib.hid hij
          clear hp
          go_wp2_with (fail)
          go_region_law (refine step_appN tP (by rfl) _ _ (by rfl) (Value.slice q j cap) [Value.int .i64 ((s[i]'h1).toNat : Int), Value.int .i64 ((s[i + 1]'h2).toNat : Int)] j (flat rowP (P.take j)) (by rfl) wr.heap.size (by rfl) (heap_alloc_new wr _) (hown.alloc _) (by rfl) (by simp [Value.oneCell']) hjm hjm2 ((hb.alloc hsz _).drew) (Nat.le_trans hsz (by simp)) ?_; intro g1 cap1 w1 hown1 hgr1 hbel1 hsz1; have hN1 : w1.heap[R + 1]? = _ := (hgr1.block (R + 1) (by simp; omega) hne).trans ((heap_alloc_old wr _ hlN).trans xN); have hR1 : w1.heap[R]? = _ := (hgr1.block R (by simp; omega) hneR).trans ((heap_alloc_old wr _ hlR).trans xR); have cz : w1.cell? ⟨R + 1, 3, none⟩ = some (Value.slice q j cap) := (by rw [cell_of_row _ _ _ _ _ _ hN1]; rfl); have fz := frozen_of_row _ (R + 1) 3 _ _ hN1)
          all_goals
            have hN2 := heap_setCell_same _ _ 3 _ _ (Value.slice (some ⟨g1, 0, none⟩) (j + 1) cap1) hN1
            have hR2 : (w1.setCell ⟨R + 1, 3, none⟩ (Value.slice (some ⟨g1, 0, none⟩) (j + 1) cap1)).heap[R]? = _ := (heap_setCell_other _ _ _ _ (by simp)).trans hR1
            have hown2 := own_setT (J := 3) (u := Value.slice (some ⟨g1, 0, none⟩) (j + 1) cap1) hown1 hN1 (by decide)
            have hb2 := hbel1.setCell (p := ⟨R + 1, 3, none⟩) (Nat.le_succ_of_le hRl) (Value.slice (some ⟨g1, 0, none⟩) (j + 1) cap1)
            rw [show flat rowP (P.take j) ++ [Value.int .i64 ((s[i]'h1).toNat : Int), Value.int .i64 ((s[i + 1]'h2).toNat : Int)] = flat rowP (P.take (j + 1)) from by rw [take_one HP.out]; simp [flat, rowP]] at hown2
            generalize w1.setCell ⟨R + 1, 3, none⟩ (Value.slice (some ⟨g1, 0, none⟩) (j + 1) cap1) = w2 at hN2 hR2 hown2 hb2 ⊢
            clear hown hown1 hgr1 hbel1 hsz1 hN1 hR1 cz fz xN xR hb c3 hne hneR wa wb wi
            have hjm9 : j + 1 ≤ m := by omega
            have hi9 : Hid (i + 2 = 7 + 2 * (j + 1)) := by show i + 2 = 7 + 2 * (j + 1); have h9 : i = 7 + 2 * j := HJ.out; omega
            have wi2 : IntKind.i64.wrap ((i : Int) + 2) = (i : Int) + 2 := by rw [IntKind.wrap_i64]; omega
            have hmeas : s.size - (i + 2) < s.size - i := by omega
            have HME := Lib.hid hmeas
            clear hmeas
            go_wp2_with (fail)
            exact ⟨⟨j + 1, i + 2, _, hjm9, hi9, rfl, hR2, by simpa using hN2, hown2, hb2⟩, by show s.size - (((i : Int) + 2).toNat) < s.size - ((i : Int).toNat); have := HME.out; omega⟩
        · have hjm : j = m := by omega
          subst hjm
          have hdone : ¬ (i : Int) < (s.size : Int) := by have := hij.out; have := HM.out; omega
          rw [List.take_of_length_le (by rw [HPL.out]; exact Nat.le_refl _)] at hown
          have hsl : SliceAt wr 2 (Value.slice q j cap) (P.map rowP) := own_sliceN rowP_len HPL.out.symm hown
          have hlR := (Array.getElem?_eq_some_iff.1 xR).1
          have hlN := (Array.getElem?_eq_some_iff.1 xN).1
          have d0 : wr.cell? ⟨R + 1, 0, none⟩ = some (.int .i64 (kn : Int)) := by rw [cell_of_row _ _ _ _ _ _ xN]; rfl
          have d1 : wr.cell? ⟨R + 1, 1, none⟩ = some (.int .i64 (gn : Int)) := by rw [cell_of_row _ _ _ _ _ _ xN]; rfl
          have d2 : wr.cell? ⟨R + 1, 2, none⟩ = some (.int .i64 (zn : Int)) := by rw [cell_of_row _ _ _ _ _ _ xN]; rfl
          have HSL := Lib.hid hsl
          have hneS : ∀ {bq oq : Nat} {cq : Nat}, bq = R → ¬ (Value.slice q j cap = .slice (some ⟨bq, oq, none⟩) (P.map rowP).length cq) := by
            intro bq oq cq e2 h1
            subst e2
            have h2 := own_typeN hown xR (by decide)
            rw [h1] at h2
            exact h2 rfl
          have hPl : P.length ≤ 1000000000000000 := by rw [HPL.out]; have := HM.out; omega
          clear hown hsl
          go_wp2_with (fail)
          refine (check_any (kn : Int) (gn : Int) (zn : Int) _ P _ HSL.out ?w1 ?w2 ?w3 hPl).mono ?_
          case w1 => obtain ⟨h, _, _⟩ := HRB; simp [Lit.wf, IntKind.min, IntKind.max, IntKind.signed, IntKind.bits]; omega
          case w2 => obtain ⟨_, h, _⟩ := HRB; simp [Lit.wf, IntKind.min, IntKind.max, IntKind.signed, IntKind.bits]; omega
          case w3 => obtain ⟨_, _, h⟩ := HRB; simp [Lit.wf, IntKind.min, IntKind.max, IntKind.signed, IntKind.bits]; omega
          rintro e w9 ⟨⟨hgood, rfl⟩ | ⟨hbad, cc, hcc, rfl⟩, hb9⟩
          · have b9 := hb.trans (hb9.mono hb.size)
            have yN := (hb9.block _ hlN).trans xN
            have yR := (hb9.block _ hlR).trans xR
            have f0 : w9.cell? ⟨R + 1, 0, none⟩ = some (.int .i64 (kn : Int)) := by rw [cell_of_row _ _ _ _ _ _ yN]; rfl
            have f1 : w9.cell? ⟨R + 1, 1, none⟩ = some (.int .i64 (gn : Int)) := by rw [cell_of_row _ _ _ _ _ _ yN]; rfl
            have f2 : w9.cell? ⟨R + 1, 2, none⟩ = some (.int .i64 (zn : Int)) := by rw [cell_of_row _ _ _ _ _ _ yN]; rfl
            have f3 : w9.cell? ⟨R + 1, 3, none⟩ = some (Value.slice q j cap) := by rw [cell_of_row _ _ _ _ _ _ yN]; rfl
            have YR := Lib.hid yR
            have hsl9 := HSL.out.below (Nat.le_refl _) hb9
            have HSL9 := Lib.hid hsl9
            have HGOOD := Lib.hid hgood
            have hRl9 := Nat.lt_of_lt_of_le hlR hb9.size
            clear d0 d1 d2 c3 xN xR yN yR hb9 hb hgood hsl9
            go_wp2_with (with_reducible show wpList _ _ _ ({ dst := none, op := Op.store 58 (.tmp 2) (.tmp 65), type := _, pos := _, after := _, guard := none } :: _) _ _; (refine opq_store rfl 58 (.tmp 2) (.tmp 65) rfl R 0 ?pb 58 #[Value.int .i64 0, Value.int .i64 0, Value.int .i64 0, Value.slice none 0 0] [Value.int .i64 (kn : Int), Value.int .i64 (gn : Int), Value.int .i64 (zn : Int), Value.slice q j cap] YR.out rfl (by simp) (by kernel_rfl) (by simp [Value.oneCell']) ?_))
            case pb => first | rfl | simp
            intro w10 cur10 s10 g10 l10
            have e10 : cur10 = #[Value.int .i64 (kn : Int), Value.int .i64 (gn : Int), Value.int .i64 (zn : Int), Value.slice q j cap] := by
              apply Array.ext_getElem?
              intro k
              rw [l10.2 k]
              match k with
              | 0 => rfl
              | 1 => rfl
              | 2 => rfl
              | 3 => rfl
              | k + 4 => rw [if_neg (by simp)]; simp
            subst e10
            have b10 := s10.below b9 hRl
            have hres : SliceAt w10 2 (Value.slice q j cap) (P.map rowP) := by
              rcases HSL9.out with h | ⟨bq, oq, cq, h1, h2, h3, h4, h5, h6⟩
              · exact .inl h
              · refine .inr ⟨bq, oq, cq, h1, h2, h3, h4, by rw [s10.size]; exact h5, fun i r hr => ⟨(h6 i r hr).1, fun j2 x hx => ?_⟩⟩
                have h7 := (h6 i r hr).2 j2 x hx
                have hne9 : bq ≠ R := by
                  intro e2
                  have h8 := YR.out
                  rw [e2] at h7
                  rw [cell_of_row _ _ _ _ _ _ h8] at h7
                  obtain ⟨⟨p1, p2⟩, _, rfl⟩ := List.mem_map.1 (List.mem_of_getElem? hr)
                  exact hneS e2 h1
                rw [World.cell?_of_block (s10.block bq hne9)]
                exact h7
            have HRES := Lib.hid hres
            have HB10 := Lib.hid b10
            clear s10 l10 f0 f1 f2 f3 hres b10 b9
            go_wp2_with (fail)
            refine bodyPost_ret_by (v := .tuple #[.agg #[Value.int .i64 (kn : Int), Value.int .i64 (gn : Int), Value.int .i64 (zn : Int), Value.slice q j cap], .int .i64 0]) (results_cell2 (ty := 58) rfl _ _ R _ #[Value.int .i64 (kn : Int), Value.int .i64 (gn : Int), Value.int .i64 (zn : Int), Value.slice q j cap] _ _ rfl g10 hu58 rfl size58 _ rfl) rfl ⟨HRS.out _ _ (.inr ⟨HGOOD.out, _, rfl, HRES.out⟩), HB10.out⟩
          · have b9 := hb.trans (hb9.mono hb.size)
            have yR := (hb9.block _ hlR).trans xR
            have hccb : ((cc : Int) != 0) = true := by simp; omega
            have hk9 := heap_setCell_same _ _ 3 _ _ (Value.slice none 0 0) (heap_setCell_same _ _ 2 _ _ (Value.int .i64 0) (heap_setCell_same _ _ 1 _ _ (Value.int .i64 0) (heap_setCell_same _ _ 0 _ _ (Value.int .i64 0) yR)))
            have HB := Lib.hid hbad
            have K9 := Lib.hid hk9
            have hb99 := (((b9.setCell (p := ⟨R, 0, none⟩) hRl (Value.int .i64 0)).setCell (p := ⟨R, 1, none⟩) hRl (Value.int .i64 0)).setCell (p := ⟨R, 2, none⟩) hRl (Value.int .i64 0)).setCell (p := ⟨R, 3, none⟩) hRl (Value.slice none 0 0)
            have HB99 := Lib.hid hb99
            have r0 : w9.cell? ⟨R, 0, none⟩ = some (.int .i64 0) := by rw [cell_of_row _ _ _ _ _ _ yR]; rfl
            have r1 : w9.cell? ⟨R, 1, none⟩ = some (.int .i64 0) := by rw [cell_of_row _ _ _ _ _ _ yR]; rfl
            have r2 : w9.cell? ⟨R, 2, none⟩ = some (.int .i64 0) := by rw [cell_of_row _ _ _ _ _ _ yR]; rfl
            have r3 : w9.cell? ⟨R, 3, none⟩ = some (Value.slice none 0 0) := by rw [cell_of_row _ _ _ _ _ _ yR]; rfl
            have z0 := frozen_of_row _ R 0 _ _ yR
            have z1 := frozen_of_row _ R 1 _ _ yR
            have z2 := frozen_of_row _ R 2 _ _ yR
            have z3 := frozen_of_row _ R 3 _ _ yR
            clear hk9 hb99 hbad yR b9 hb9 hb xN xR d0 d1 d2 c3
            go_wp2_with (fail)
            refine bodyPost_ret_by (v := .tuple #[zero4, .int .i64 4]) (results_cell2 (ty := 58) rfl _ _ R _ #[Value.int .i64 0, Value.int .i64 0, Value.int .i64 0, Value.slice none 0 0] _ _ rfl K9.out hu58 rfl size58 _ rfl) rfl ⟨HRS.out _ _ (.inl ⟨HB.out, rfl⟩), HB99.out⟩
end Go.Proofs.Ytdjnhbaipfkiaaa.inode
