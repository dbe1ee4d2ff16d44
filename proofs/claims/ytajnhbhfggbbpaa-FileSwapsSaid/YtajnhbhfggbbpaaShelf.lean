/-
  The contracts of the library at this seat (printed by the shelf's program).
-/
import Derived.Shelf.Strings.Builder1
import Derived.Shelf.Strings.Builder2
import Derived.Shelf.Strings.BuilderF
import Derived.Shelf.Strings.Prefix
import Derived.Shelf.Strings.Repeat
import Derived.Test.YtajnhbhfggbbpaaProg
namespace Go.Proofs
open Go.Shelf
set_option linter.unusedVariables false
def Try.lays105_ren : Go.Shelf.Ren := ⟨fun | 105 => 92 | 212 => 104 | 99 => 105 | 165 => 106 | 166 => 93 | 170 => 107 | 169 => 94 | 263 => 113 | 264 => 114 | 206 => 115 | 240 => 108 | 241 => 116 | 276 => 117 | 277 => 120 | n => n, fun | 9 => 9 | 3 => 3 | 4 => 4 | 20 => 20 | 0 => 0 | 46 => 129 | 109 => 161 | 5 => 5 | 72 => 151 | 76 => 154 | 51 => 127 | 146 => 167 | 53 => 104 | 148 => 169 | 70 => 149 | 37 => 105 | 75 => 153 | 127 => 165 | 164 => 171 | 80 => 156 | n => n, fun | n => n⟩
theorem Try.lays105 : Go.Proofs.Lays.n105 Try.prog Try.lays105_ren := {
  mixed := by kernel_rfl
  f99 := Try.func105.trans (congrArg some (by kernel_rfl))
  f105 := Try.func92.trans (congrArg some (by kernel_rfl))
  f165 := Try.func106.trans (congrArg some (by kernel_rfl))
  f166 := Try.func93.trans (congrArg some (by kernel_rfl))
  f169 := Try.func94.trans (congrArg some (by kernel_rfl))
  f170 := Try.func107.trans (congrArg some (by kernel_rfl))
  f206 := Try.func115.trans (congrArg some (by kernel_rfl))
  f212 := Try.func104.trans (congrArg some (by kernel_rfl))
  f240 := Try.func108.trans (congrArg some (by kernel_rfl))
  f241 := Try.func116.trans (congrArg some (by kernel_rfl))
  f263 := Try.func113.trans (congrArg some (by kernel_rfl))
  f264 := Try.func114.trans (congrArg some (by kernel_rfl))
  f276 := Try.func117.trans (congrArg some (by kernel_rfl))
  f277 := Try.func120.trans (congrArg some (by kernel_rfl))
  t0 := Try.underlying0
  a0 := Try.isAgg0
  z0 := Try.sizeOf0
  v0 := Try.zeroValue0
  t3 := Try.underlying3
  a3 := Try.isAgg3
  z3 := Try.sizeOf3
  v3 := Try.zeroValue3
  t4 := Try.underlying4
  a4 := Try.isAgg4
  z4 := Try.sizeOf4
  v4 := Try.zeroValue4
  t5 := Try.underlying5
  a5 := Try.isAgg5
  z5 := Try.sizeOf5
  v5 := Try.zeroValue5
  t9 := Try.underlying9
  a9 := Try.isAgg9
  z9 := Try.sizeOf9
  v9 := Try.zeroValue9
  t20 := Try.underlying20
  a20 := Try.isAgg20
  z20 := Try.sizeOf20
  v20 := Try.zeroValue20
  t37 := Try.underlying105
  a37 := Try.isAgg105
  z37 := Try.sizeOf105
  v37 := Try.zeroValue105
  t46 := Try.underlying129
  a46 := Try.isAgg129
  z46 := Try.sizeOf129
  v46 := Try.zeroValue129
  t51 := Try.underlying127
  a51 := Try.isAgg127
  z51 := Try.sizeOf127
  v51 := Try.zeroValue127
  t53 := Try.underlying104
  a53 := Try.isAgg104
  z53 := Try.sizeOf104
  v53 := Try.zeroValue104
  t70 := Try.underlying149
  a70 := Try.isAgg149
  z70 := Try.sizeOf149
  v70 := Try.zeroValue149
  t72 := Try.underlying151
  a72 := Try.isAgg151
  z72 := Try.sizeOf151
  v72 := Try.zeroValue151
  t75 := Try.underlying153
  a75 := Try.isAgg153
  z75 := Try.sizeOf153
  v75 := Try.zeroValue153
  t76 := Try.underlying154
  a76 := Try.isAgg154
  z76 := Try.sizeOf154
  v76 := Try.zeroValue154
  t109 := Try.underlying161
  a109 := Try.isAgg161
  z109 := Try.sizeOf161
  v109 := Try.zeroValue161
  t127 := Try.underlying165
  a127 := Try.isAgg165
  z127 := Try.sizeOf165
  v127 := Try.zeroValue165
  t146 := Try.underlying167
  a146 := Try.isAgg167
  z146 := Try.sizeOf167
  v146 := Try.zeroValue167
  t148 := Try.underlying169
  a148 := Try.isAgg169
  z148 := Try.sizeOf169
  v148 := Try.zeroValue169
  t164 := Try.underlying171
  a164 := Try.isAgg171
  z164 := Try.sizeOf171
  v164 := Try.zeroValue171 }
theorem Try.Builder_Extra_105 : Builder.Extra Try.prog Try.lays105_ren := {
  sizeBuilder := by kernel_rfl
  liesBuilder := by kernel_rfl
  t5 := Try.underlying5
  a5 := Try.isAgg5
  z5 := Try.sizeOf5
  v5 := Try.zeroValue5
  infoByte := by kernel_rfl
  cellsByte := by kernel_rfl
  sizeByte := by kernel_rfl
  neB5 := by decide }
open Go.RowKit Go.Lib in
theorem Try.strings_Repeat (s : ByteArray) (c : Nat) (w : World) (hc : c ≤ 9223372036854775807) (hlen : s.size * c ≤ 140737488355328) :
    Calls Try.prog 92 #[.string s, .int .i64 c] w fun e w' => e = .returned (.string ⟨(Lib.repeatL s.data.toList c).toArray⟩) ∧ Below w.heap.size w w' := Any.strings_Repeat Try.lays105 Try.Builder_Extra_105 s c w hc hlen
end Go.Proofs
