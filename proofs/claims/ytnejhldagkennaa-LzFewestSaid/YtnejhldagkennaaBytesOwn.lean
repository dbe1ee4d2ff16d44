/-
  '[]byte(s)' and appends to it: rows of bytes of the call's own, whatever lies behind them.
-/
import Derived.Test.YtnejhldagkennaaMore
import Derived.Test.YtnejhldagkennaaBytesRow
import Derived.ArgAppend
namespace Go.Proofs.Ytnejhldagkennaa.kit
open Go.RowKit
set_option linter.unusedVariables false

/-- v is a slice of the call's own (not nil) that holds the bytes l -/
def BOwn (w : World) (B : Nat) (e : TypeId) (v : Value) (l : List UInt8) : Prop :=
  ∃ (g cap : Nat) (cur : Array Value) (fr : Nat × Nat), v = .slice (some ⟨g, 0, none⟩) l.length cap ∧ B ≤ g ∧ w.heap[g]? = some (.cells cur e fr) ∧ (fr = (0, 0) ∨ cap ≤ fr.1) ∧ l.length ≤ cap ∧ cap ≤ maxLen ∧ cur.size = cap ∧
    cur.toList.take l.length = byteCells l

theorem BOwn.kept {w w' : World} {B : Nat} {e : TypeId} {v : Value} {l : List UInt8} (h : BOwn w B e v l) (hg : w.grownBy w' none) : BOwn w' B e v l := by
  obtain ⟨g, cap, cur, fr, rfl, h1, h2, r⟩ := h
  exact ⟨g, cap, cur, fr, rfl, h1, by rw [hg.block g (Array.getElem?_eq_some_iff.1 h2).1 (by simp)]; exact h2, r⟩
theorem BOwn.str {P : Program} {w : World} {B src dst e : TypeId} {v : Value} {l : List UInt8} (h : BOwn w B e v l) (hs : P.underlying src = some (.slice e)) (he : P.underlying e = some (.int .u8)) (hd : P.underlying dst = some .string) :
    (convert src dst v).run P w = .ok (.string ⟨l.toArray⟩) w := by
  obtain ⟨g, cap, cur, fr, rfl, h1, h2, h3, h4, h5, h6, h7⟩ := h
  refine run_convert_bytes_back w src dst e ⟨g, 0, none⟩ cap l hs he hd ?_
  intro j hj
  have hadd : (⟨g, 0, none⟩ : Addr).add j = ⟨g, j, none⟩ := by unfold Addr.add; split <;> simp_all
  rw [hadd, cell_of_row _ _ _ _ _ _ h2]
  have e1 : (cur.toList.take l.length)[j]? = some (.int .u8 (l[j].toNat : Int)) := by rw [h7]; simp [byteCells, hj]
  rw [List.getElem?_take, if_pos hj] at e1
  simpa using e1

/-- '[]byte(s)' in a walk: a row of the call's own. -/
theorem wpList_bytes_own {P : Program} {w0 w : World} {ops : Array Oper} {rest : List Oper} {o : Oper} {a : Act} {Q : Exit → Act → World → Prop} (hgd : o.guard = none) (src dst e : TypeId) (x : Operand) (ho : o.op = .convert src dst x)
    (hs : P.underlying src = some .string) (hd : P.underlying dst = some (.slice e)) (he : P.underlying e = some (.int .u8)) (s : ByteArray) (hsz : s.size ≤ maxLen) (hx : a.eval x = .string s) {B : Nat} (hb : Below B w0 w) (hB : B ≤ w.heap.size)
    (h : ∀ v w', BOwn w' B e v s.data.toList → Below B w0 w' → wpList P ops Q rest (a.put o.dst v) w') : wpList P ops Q (o :: rest) a w := by
  refine wpList_plain hgd fun K hK => ?_
  unfold Oper.wp execOp
  simp only [ho, hx, Sem.run_bind, Sem.run_pure, Result.andThen_ok, run_bytes_of_string w src dst e s hs hd he]
  have hge := grownCap_ge w s.size 0 e
  have hsz2 : (bytesRow s (grownCap w s.size 0 e)).size = grownCap w s.size 0 e := by
    simp [bytesRow]
    have : s.data.size = s.size := rfl
    omega
  refine hK _ _ (h _ _ ⟨w.heap.size, grownCap w s.size 0 e, _, _, ?_, hB, heap_alloc_new w.drew _, .inr ?_, ?_, grownCap_le_maxLen w s.size 0 e hsz, hsz2, ?_⟩ (hb.drew.alloc hB _))
  · rw [← Lib.size_eq]
  · rw [hsz2]; exact Nat.le_refl _
  · rw [← Lib.size_eq]; exact hge
  · simp [bytesRow, byteCells]

/-- One byte appended to such a row. -/
theorem run_app_byte {P : Program} {t e : TypeId} {z : Value} (hT : SliceTy P t e 1 1 z) (ty : TypeId) {w : World} {B : Nat} {v : Value} {l : List UInt8} (hown : BOwn w B e v l) (b : UInt8)
    (ad : Addr) (hc : w.cell? ad = some (.int .u8 (b.toNat : Int))) (hl : l.length + 1 ≤ 1000000) (hB : B ≤ w.heap.size) :
    ∃ v' w', (Builtin.append_ #[t, t] ty #[v, .slice (some ad) 1 1]).run P w = .ok v' w' ∧ BOwn w' B e v' (l ++ [b]) ∧ Below B w w' := by
  obtain ⟨h1, h2, h3, i, hi1, hi2, hi3, hi4⟩ := hT
  obtain ⟨g, cap, cur, fr, rfl, k1, k2, k3, k4, k5, k6, k7⟩ := hown
  have hadd : ∀ (a : Addr), a.add 0 = a := fun a => by simp [Addr.add]
  have hnew : ∀ j u, [Value.int .u8 (b.toNat : Int)][j]? = some u → w.cell? (ad.add j) = some u := by
    intro j u hj
    match j, hj with
    | 0, hj => rw [hadd, hc]; simpa using hj
  have hcell : ∀ j u, (byteCells l)[j]? = some u → w.cell? ⟨g, j, none⟩ = some u := by
    intro j u hj
    rw [← k7, List.getElem?_take] at hj
    split at hj
    · rw [cell_of_row _ _ _ _ _ _ k2]; simpa using hj
    · cases hj
  have hlb : (byteCells l).length = l.length := by simp [byteCells]
  by_cases hr : l.length + 1 ≤ cap
  · have hrun := run_append_room_cells (P := P) w t ty e i h1 hi1 g 0 l.length cap ad 1 1 [.int .u8 (b.toNat : Int)] (by simp [hi3]) hnew (by simp [Value.oneCell']) hr
      (fun j hj => by
        have hj0 : j = 0 := by simpa using hj
        subst hj0
        rw [cell_of_row _ _ _ _ _ _ k2, hi3]
        simp
        omega)
      (fun j hj => by
        have hj0 : j = 0 := by simpa using hj
        subst hj0
        simp [World.frozen?, k2, hi3]
        rcases k3 with rfl | k3
        · simp
        · omega)
    refine ⟨_, _, hrun, ⟨g, cap, cur.setIfInBounds l.length (.int .u8 (b.toNat : Int)), fr, by simp, k1, ?_, k3, by simpa using hr, k5, by simpa using k6, ?_⟩, ?_⟩
    · simp only [hi3, Nat.zero_add, Nat.mul_one, World.setCells]
      rw [setCell_eq_setRow w g l.length cur e fr _ k2]
      exact setRow_heap w g cur _ e _ k2
    · rw [← byteCells_snoc l b _ rfl, ← k7]
      apply List.ext_getElem?
      intro j
      simp only [Array.toList_setIfInBounds, List.length_append, List.length_singleton, List.getElem?_take, List.getElem?_set, List.getElem?_append, List.length_take, Array.length_toList]
      by_cases h5 : j < l.length
      · rw [if_pos (by omega), if_neg (by omega), if_pos (by omega), if_pos (by omega)]
      · by_cases h6 : j = l.length
        · subst h6
          rw [if_pos (by omega), if_pos rfl, if_pos (by omega), if_neg (by omega)]
          rw [show l.length - min l.length cur.size = 0 from by omega]
          rfl
        · rw [if_neg (by omega), if_neg (by omega)]
          symm
          apply List.getElem?_eq_none
          simp
          omega
    · simp only [hi3, Nat.zero_add, Nat.mul_one, World.setCells]
      exact (Below.refl _ _).setCell (p := ⟨g, l.length, none⟩) k1 _
  · obtain ⟨v', w', hrun, r1, r2⟩ := run_append_arg_grows (P := P) w t ty e i z 1 1 h1 hi1 hi2 hi3 hi4 h2 h3 ⟨g, 0, none⟩ l.length cap (byteCells l) (by simp [byteCells]) (fun j u hj => by
        have : (⟨g, 0, none⟩ : Addr).add j = ⟨g, j, none⟩ := by unfold Addr.add; split <;> simp_all
        rw [this]; exact hcell j u hj) ad 1 1 [.int .u8 (b.toNat : Int)] (by simp) hnew (by omega) (by unfold maxLen; omega) (by omega)
    refine ⟨v', w', hrun, ?_, ⟨r2.os, r2.tape, r2.output, r2.size, fun k hk => r2.block k (by omega) (by simp)⟩⟩
    rw [byteCells_snoc l b _ rfl] at r1
    rcases r1.2 with ⟨rfl, h0⟩ | ⟨g2, cap2, cur2, rfl, hb2, hg2, m1, m2, m3, m4⟩
    · omega
    · exact ⟨g2, cap2, cur2, _, by simp, by omega, hg2, .inl rfl, by simpa using m1, m2, by simpa using m3, by simpa using m4⟩

/-- .. in a walk: the byte was laid into a new block. -/
theorem app_byte {P : Program} {w : World} {B : Nat} {t e : TypeId} {z : Value} (hT : SliceTy P t e 1 1 z) {ops : Array Oper} {rest : List Oper} {o : Oper} {a : Act} {Q : Exit → Act → World → Prop} (hgd : o.guard = none) (s x : Operand)
    (ho : o.op = .call { callee := .builtin .append, args := #[s, x], argTypes := #[t, t] })
    (v : Value) (l : List UInt8) (n : Int) (b : UInt8) (hn : n = (b.toNat : Int)) (hs : a.eval s = v) (hx : a.eval x = .slice (some ⟨w.heap.size, 0, none⟩) 1 1)
    (hown : BOwn w B e v l) (hl : l.length + 1 ≤ 1000000) (hB : B ≤ w.heap.size)
    (h : ∀ v' w', BOwn w' B e v' (l ++ [b]) → Below B w w' → wpList P ops Q rest (a.put o.dst v') w') :
    wpList P ops Q (o :: rest) a (w.alloc (.cells #[.int .u8 n] e)) := by
  subst hn
  refine wpList_plain hgd fun K hK => ?_
  obtain ⟨v', w', hrun, r1, r2⟩ := run_app_byte hT o.type (hown.kept (World.grownBy_alloc w (.cells #[.int .u8 (b.toNat : Int)] e) none)) b ⟨w.heap.size, 0, none⟩ (cell_new rfl rfl) hl (by simp; omega)
  unfold Oper.wp
  simp [execOp, ho, resolve, invoke, builtin, hs, hx, hrun, Result.andThen]
  exact hK _ _ (h v' w' r1 (((Below.refl B w).alloc hB _).trans r2))
end Go.Proofs.Ytnejhldagkennaa.kit
