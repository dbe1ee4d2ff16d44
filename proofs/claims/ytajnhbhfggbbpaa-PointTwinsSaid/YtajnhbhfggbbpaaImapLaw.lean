/-
  maps as text, the plain law: how a text is read record by record.
-/
import Derived.Test.YtajnhbhfggbbpaaImapCheck
import Derived.Test.YtajnhbhfggbbpaaFixLaw
import Derived.Test.YtajnhbhfggbbpaaGetPut
namespace Go.Proofs.Ytajnhbhfggbbpaa.imap
open Go.RowKit kit Go.Proofs.Ytajnhbhfggbbpaa.fix Go.Proofs.Ytajnhbhfggbbpaa.fixl Go.Proofs.Ytajnhbhfggbbpaa.put Go.Proofs.Ytajnhbhfggbbpaa.get
set_option linter.unusedVariables false

def recB (z : (Int × Int) × Int) : List UInt8 := putB z.2.toNat ++ fixB z.1.1.toNat 1 ++ fixB z.1.2.toNat 1
def writeM (zs : List ((Int × Int) × Int)) : List UInt8 := zs.flatMap recB
theorem writeM_app (a b : List ((Int × Int) × Int)) : writeM (a ++ b) = writeM a ++ writeM b := by simp [writeM]
theorem recB_len (z : (Int × Int) × Int) : 3 ≤ (recB z).length ∧ (recB z).length ≤ 13 := by
  have := putF_len 10 z.2.toNat
  simp [recB, fixB_len, putB]
  omega
def GoodZ (zs : List ((Int × Int) × Int)) : Prop := zs.length = 48 ∧ ∀ z ∈ zs, Okay z.1 ∧ 0 ≤ z.2 ∧ z.2 ≤ 2147483647
theorem goodZ {ps : List (Int × Int)} {gs : List Int} (h : GoodM ps gs) : GoodZ (ps.zip gs) := by
  obtain ⟨h1, h2, h3⟩ := h
  refine ⟨by simp [h1, h2], fun z hz => ?_⟩
  obtain ⟨i, hi⟩ := List.getElem?_of_mem hz
  rw [List.getElem?_zip_eq_some] at hi
  have hl := (List.getElem?_eq_some_iff.1 hi.1).1
  exact h3 i (by omega) _ _ hi.1 hi.2
theorem goodM {zs : List ((Int × Int) × Int)} (h : GoodZ zs) : GoodM (zs.map (·.1)) (zs.map (·.2)) := by
  obtain ⟨h1, h2⟩ := h
  refine ⟨by simp [h1], by simp [h1], fun i hi p g hp hg => ?_⟩
  rw [List.getElem?_map] at hp hg
  obtain ⟨z, hz, rfl⟩ := Option.map_eq_some_iff.1 hp
  rw [hz] at hg
  have := Option.some.inj hg
  subst this
  exact h2 z (List.mem_of_getElem? hz)
theorem zip_maps (zs : List ((Int × Int) × Int)) : (zs.map (·.1)).zip (zs.map (·.2)) = zs := by
  induction zs with
  | nil => rfl
  | cons z zs ih => simp only [List.map_cons, List.zip_cons_cons, ih]
theorem maps_zip {ps : List (Int × Int)} {gs : List Int} (h : ps.length = gs.length) : (ps.zip gs).map (·.1) = ps ∧ (ps.zip gs).map (·.2) = gs := by
  constructor
  · exact List.map_fst_zip (by omega)
  · exact List.map_snd_zip (by omega)

/-- what has been read, and what is left -/
def Inv (L : List UInt8) (zs : List ((Int × Int) × Int)) (rest : List UInt8) : Prop :=
  L = writeM zs ++ rest ∧ ∀ zs0, GoodZ zs0 → L = writeM zs0 → ∃ more, zs0 = zs ++ more
theorem inv_start (L : List UInt8) : Inv L [] L := ⟨rfl, fun zs0 _ _ => ⟨zs0, rfl⟩⟩
/-- a record that may stand, read -/
theorem rec_read {z : (Int × Int) × Int} (h : Okay z.1 ∧ 0 ≤ z.2 ∧ z.2 ≤ 2147483647) (more : List UInt8) :
    getB (recB z ++ more) = (z.2.toNat, (putB z.2.toNat).length, 0) ∧ (putB z.2.toNat).length + 2 ≤ (recB z ++ more).length ∧
    (recB z ++ more)[(putB z.2.toNat).length]? = some (UInt8.ofNat z.1.1.toNat) ∧ (recB z ++ more)[(putB z.2.toNat).length + 1]? = some (UInt8.ofNat z.1.2.toNat) := by
  obtain ⟨⟨h1, h2, h3, h4, _, _⟩, h5, h6⟩ := h
  have e : recB z ++ more = putB z.2.toNat ++ (UInt8.ofNat z.1.1.toNat :: UInt8.ofNat z.1.2.toNat :: more) := by
    unfold recB
    rw [fix_one _ (by omega), fix_one _ (by omega)]
    simp
  rw [e]
  refine ⟨getB_put _ _ (by omega), by simp, ?_, ?_⟩
  · rw [List.getElem?_append_right (Nat.le_refl _)]; simp
  · rw [List.getElem?_append_right (by omega)]; simp
theorem inv_next {L rest : List UInt8} {zs zs0 : List ((Int × Int) × Int)} (h : Inv L zs rest) (hl : zs.length < 48) (h0 : GoodZ zs0) (hw : L = writeM zs0) :
    ∃ z more, zs0 = zs ++ z :: more ∧ rest = recB z ++ writeM more ∧ Okay z.1 ∧ 0 ≤ z.2 ∧ z.2 ≤ 2147483647 := by
  obtain ⟨h1, h2⟩ := h
  obtain ⟨more, hm⟩ := h2 zs0 h0 hw
  cases more with
  | nil =>
    have := h0.1
    rw [hm] at this
    simp at this
    omega
  | cons z more =>
    refine ⟨z, more, hm, ?_, h0.2 z (by rw [hm]; simp)⟩
    rw [hw, hm, writeM_app] at h1
    exact (List.append_cancel_left h1).symm
theorem inv_step {L rest : List UInt8} {zs : List ((Int × Int) × Int)} {n k : Nat} {b1 b2 : UInt8} (h : Inv L zs rest) (hl : zs.length < 48) (hg : getB rest = (n, k, 0)) (hn : n ≤ 2147483647)
    (h1 : rest[k]? = some b1) (h2 : rest[k + 1]? = some b2) : Inv L (zs ++ [(((b1.toNat : Int), (b2.toNat : Int)), (n : Int))]) (rest.drop (k + 2)) := by
  constructor
  · obtain ⟨m, e1, e2⟩ : ∃ m, putB n = rest.take k ∧ m = k := by
      rcases getB_facts rest with ⟨k2, m2, e1, e2, e3, e4, e5⟩ | e | e
      · rw [hg] at e1
        simp only [Prod.mk.injEq] at e1
        obtain ⟨rfl, rfl, _⟩ := e1
        exact ⟨_, e5, rfl⟩
      · rw [hg] at e; simp at e
      · rw [hg] at e; simp at e
    rw [writeM_app, List.append_assoc, h.1]
    congr 1
    have hk2 := (List.getElem?_eq_some_iff.1 h2).1
    have hk1 := (List.getElem?_eq_some_iff.1 h1)
    have hk3 := (List.getElem?_eq_some_iff.1 h2)
    obtain ⟨l1, l2⟩ := hk1
    obtain ⟨l3, l4⟩ := hk3
    simp only [writeM, recB, List.flatMap_cons, List.flatMap_nil, List.append_nil, Int.toNat_natCast, fix_byte, e1]
    conv => lhs; rw [← List.take_append_drop k rest]
    rw [List.append_assoc, List.append_assoc]
    congr 1
    rw [List.drop_eq_getElem_cons l1, List.drop_eq_getElem_cons l3, l2, l4]
    rfl
  · intro zs0 h0 hw
    obtain ⟨z, more, e1, e2, e3⟩ := inv_next h hl h0 hw
    obtain ⟨r1, r2, r3, r4⟩ := rec_read e3 (writeM more)
    rw [← e2] at r1 r2 r3 r4
    rw [hg] at r1
    simp only [Prod.mk.injEq] at r1
    obtain ⟨a1, a2, _⟩ := r1
    rw [← a2] at r3 r4
    rw [h1] at r3
    rw [h2] at r4
    obtain ⟨⟨h1, h2, h3, h4, _, _⟩, h5, h6⟩ := e3
    have b1 := Option.some.inj r3
    have b2 := Option.some.inj r4
    refine ⟨more, ?_⟩
    rw [e1, b1, b2, a1]
    obtain ⟨⟨z1, z2⟩, z3⟩ := z
    simp only at h1 h2 h3 h4 h5 h6 ⊢
    have c1 : ((UInt8.ofNat z1.toNat).toNat : Int) = z1 := by simp; omega
    have c2 : ((UInt8.ofNat z2.toNat).toNat : Int) = z2 := by simp; omega
    have c3 : (z3.toNat : Int) = z3 := by omega
    rw [c1, c2, c3]
    simp
theorem inv_bad {L rest : List UInt8} {zs : List ((Int × Int) × Int)} (h : Inv L zs rest) (hl : zs.length < 48) (hb : ∀ n k, getB rest = (n, k, 0) → n ≤ 2147483647 → ¬ k + 2 ≤ rest.length) : ¬ ∃ zs0, GoodZ zs0 ∧ L = writeM zs0 := by
  rintro ⟨zs0, h0, hw⟩
  obtain ⟨z, more, e1, e2, e3⟩ := inv_next h hl h0 hw
  obtain ⟨r1, r2, r3, r4⟩ := rec_read e3 (writeM more)
  rw [← e2] at r1 r2
  exact hb _ _ r1 (by have := e3.2; omega) r2
theorem inv_end {L rest : List UInt8} {zs zs0 : List ((Int × Int) × Int)} (h : Inv L zs rest) (hl : zs.length = 48) (h0 : GoodZ zs0) (hw : L = writeM zs0) : zs0 = zs ∧ rest = [] := by
  obtain ⟨h1, h2⟩ := h
  obtain ⟨more, hm⟩ := h2 zs0 h0 hw
  have hmn : more = [] := by
    have := h0.1
    rw [hm] at this
    simp at this
    exact List.eq_nil_of_length_eq_zero (by omega)
  subst hmn
  rw [List.append_nil] at hm
  subst hm
  rw [hw] at h1
  refine ⟨rfl, ?_⟩
  have := congrArg List.length h1
  simp at this
  exact this
end Go.Proofs.Ytajnhbhfggbbpaa.imap
