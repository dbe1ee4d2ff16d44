/-
  The small separation logic: a string appended to an own row of bytes. Nothing here speaks of the program.
-/
import Derived.Test.YtknclflgghnojaaSlStr3
import Derived.Lib.AppendStr
namespace Go.Proofs.Ytknclflgghnojaa.sl
open Go.RowKit kit
set_option linter.unusedVariables false
theorem run_app_str {P : Program} (w : World) (t u ty e : TypeId) (i : TypeInfo) (ht : P.underlying t = some (.slice e)) (hu : P.underlying u = some .string) (hi : P.info? e = some i) (hz : i.zero = some (.int .u8 0))
    (hsize : i.size = 1) (hby : i.bytes = 1) (v : Value) (n : Nat) (xs : List Value) (hown : w.ownsRow 0 e 1 v n xs) (s : ByteArray) (hbytes : n + s.size ≤ 140737488355328) :
    ∃ v' w', (Builtin.append_ #[t, u] ty #[v, .string s]).run P w = .ok v' w' ∧ w'.ownsRow 0 e 1 v' (n + s.size) (xs ++ Lib.strCells s) ∧ w.grownBy w' v.ownBlock ∧
      (v' = .slice none 0 0 ↔ v = .slice none 0 0 ∧ s.size = 0) ∧ (v'.ownBlock = v.ownBlock ∨ v'.ownBlock = some w.heap.size) := by
  obtain ⟨v', w', hr, g1, g2, g3⟩ := Lib.run_append_own_string (P := P) w 0 t u ty e i ht hu hi hz hsize hby v n xs hown s (by unfold maxLen; omega) hbytes (Nat.zero_le _)
  refine ⟨v', w', hr, g1, g2, g3, ?_⟩
  have hxl : xs.length = n := by simpa using hown.1
  rcases hown.2 with ⟨rfl, rfl⟩ | ⟨g, cap, cur, rfl, hbg, hg, hnc, hcm, hcs, htake⟩
  · by_cases hm : s.size = 0
    · rw [g3.2 ⟨rfl, hm⟩]
      exact .inl rfl
    · have h2 := run_append_nil_string (P := P) w t u ty e i (.int .u8 0) ht hu hi hz s (by omega) (by omega) (by rw [hby]; omega)
      rw [hr] at h2
      injection h2 with h3 h4
      rw [h3]
      exact .inr rfl
  · by_cases hroom : n + s.size ≤ cap
    · have hcs' : cur.size = cap := by simpa using hcs
      have h2 := Lib.run_append_room_string (P := P) w t u ty e i ht hu hi hsize g n cap cur hg s hroom (by omega)
      rw [hr] at h2
      injection h2 with h3 h4
      rw [h3]
      exact .inl rfl
    · have holds : ∀ j u, xs[j]? = some u → w.cell? ((⟨g, 0, none⟩ : Addr).add j) = some u := hown.cells (g := g) rfl
      have h2 := Lib.run_append_grow_string (P := P) w t u ty e i (.int .u8 0) ht hu hi hz ⟨g, 0, none⟩ n cap xs (by rw [hsize]; simpa using hxl) holds s (by omega) (by omega) (by rw [hby]; exact growslice_fits (by omega) (by omega))
      rw [hr] at h2
      injection h2 with h3 h4
      rw [h3]
      exact .inr rfl
section
variable {P : Program} {n : Nat} {F : Frm} {H R : List Ent} {o : Oper} {x y z : Operand} {v u z' : Value} {T S : TypeId}
theorem opr_append_str {t tt e m : Nat} {agg : Bool} {xs l : List UInt8} [ht : Sli P t e] [hs : Ty P e agg 1 1 (.int .u8 0)] [hst : Strg P tt] (ho : o.op = .call { callee := .builtin .append, args := #[x, y], argTypes := #[t, tt] }) (hx : ev F x = some v) (hy : ev F y = some (.string (str l)))
    (p : Pick (own v e 1 m (flat fY xs)) H R) (hb : m + l.length ≤ 140737488355328) :
    Opr P n o F H fun r H' => ∃ q' cap', r = .slice q' (m + l.length) cap' ∧ (r = .slice none 0 0 ↔ v = .slice none 0 0 ∧ l = []) ∧ H' = own (.slice q' (m + l.length) cap') e 1 (m + l.length) (flat fY (xs ++ l)) :: R := fun Q a w next ha hw hn => by
  have hw' := hw.perm p.perm
  obtain ⟨it, dt, e1, _, _, e2, e3, e4⟩ := hs.info
  have hls : (str l).size = l.length := str_size l
  obtain ⟨v', w', hr, g1, g2, g3, g4⟩ := run_app_str w t tt o.type e it ht.h hst.h e1 e4 e2 e3 v m _ hw'.head (str l) (by rw [hls]; exact hb)
  rw [hls] at g1 g3
  obtain ⟨q', cap', rfl⟩ := own_value g1
  have ef : flat fY xs ++ Lib.strCells (str l) = flat fY (xs ++ l) := by
    rw [← flat_app, flat_fY l]
    rfl
  rw [ef] at g1
  unfold Oper.wp
  simp only [execOp, ho, resolve, invoke, builtin, List.map_toArray, List.map_cons, List.map_nil, ha.eval hx, ha.eval hy, Sem.run_bind, Sem.run_pure, Result.andThen_ok, hr, Oper.upon]
  refine hn _ _ _ ⟨q', cap', rfl, ?_, rfl⟩ (own_grown hw' g2 g1 g4)
  rw [g3]
  constructor
  · exact fun ⟨h1, h2⟩ => ⟨h1, List.eq_nil_of_length_eq_zero h2⟩
  · exact fun ⟨h1, h2⟩ => ⟨h1, by rw [h2]; rfl⟩
end
end Go.Proofs.Ytknclflgghnojaa.sl
