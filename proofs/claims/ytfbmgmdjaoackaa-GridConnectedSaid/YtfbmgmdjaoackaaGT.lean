/-
  Lemmas for the statements of this seat; no statement is proved here. No condition.
-/
import Derived.Test.YtfbmgmdjaoackaaM1
import Derived.Test.YtfbmgmdjaoackaaProg
namespace Go.J
open Go.Proofs
set_option maxRecDepth 8000
theorem mixed : Try.prog.follows .mixedOrders = true := by kernel_rfl
theorem fb144 : hasBody Try.prog 144 = true := by kernel_rfl
theorem s140 : tyStruct Try.prog 140 = some ([(0, 1), (1, 1), (2, 1)], [.int .i64 0, .int .i64 0, .int .i64 0]) := by kernel_rfl
theorem sh3 : tySh Try.prog 3 = some (false, 1) := by kernel_rfl
theorem sh140 : tySh Try.prog 140 = some (true, 3) := by kernel_rfl
theorem z140 : tyZero Try.prog 140 = some [.int .i64 0, .int .i64 0, .int .i64 0] := by kernel_rfl
theorem fb220 : hasBody Try.prog 220 = true := by kernel_rfl
theorem fb273 : hasBody Try.prog 273 = true := by kernel_rfl
theorem fb274 : hasBody Try.prog 274 = true := by kernel_rfl
theorem sh23 : tySh Try.prog 23 = some (true, 2) := by kernel_rfl
theorem sh50 : tySh Try.prog 50 = some (false, 1) := by kernel_rfl
theorem fb136 : hasBody Try.prog 136 = true := by kernel_rfl
theorem fb137 : hasBody Try.prog 137 = true := by kernel_rfl
theorem fb206 : hasBody Try.prog 206 = true := by kernel_rfl
theorem fb216 : hasBody Try.prog 216 = true := by kernel_rfl
theorem fb223 : hasBody Try.prog 223 = true := by kernel_rfl
theorem sh52 : tySh Try.prog 52 = some (true, 4) := by kernel_rfl
theorem s306 : tyStruct Try.prog 306 = some ([(0, 1), (1, 1)], [.int .i64 0, .int .i64 0]) := by kernel_rfl
theorem sh193 : tySh Try.prog 193 = some (false, 1) := by kernel_rfl
theorem sh306 : tySh Try.prog 306 = some (true, 2) := by kernel_rfl
theorem z306 : tyZero Try.prog 306 = some [.int .i64 0, .int .i64 0] := by kernel_rfl
theorem fb284 : hasBody Try.prog 284 = true := by kernel_rfl
theorem fb293 : hasBody Try.prog 293 = true := by kernel_rfl
theorem fb310 : hasBody Try.prog 310 = true := by kernel_rfl
theorem fb275 : hasBody Try.prog 275 = true := by kernel_rfl
theorem fb219 : hasBody Try.prog 219 = true := by kernel_rfl
theorem fb217 : hasBody Try.prog 217 = true := by kernel_rfl
theorem fb141 : hasBody Try.prog 141 = true := by kernel_rfl
theorem fb143 : hasBody Try.prog 143 = true := by kernel_rfl
theorem fb214 : hasBody Try.prog 214 = true := by kernel_rfl
theorem fb215 : hasBody Try.prog 215 = true := by kernel_rfl
theorem fb142 : hasBody Try.prog 142 = true := by kernel_rfl
theorem s62 : tyStruct Try.prog 62 = some ([(0, 1), (1, 1)], [.int .i64 0, .int .i64 0]) := by kernel_rfl
theorem sh62 : tySh Try.prog 62 = some (true, 2) := by kernel_rfl
theorem z23 : tyZero Try.prog 23 = some [.int .i64 0, .int .i64 0] := by kernel_rfl
theorem z62 : tyZero Try.prog 62 = some [.int .i64 0, .int .i64 0] := by kernel_rfl
theorem fb131 : hasBody Try.prog 131 = true := by kernel_rfl
theorem fb134 : hasBody Try.prog 134 = true := by kernel_rfl
theorem fb163 : hasBody Try.prog 163 = true := by kernel_rfl
theorem fb196 : hasBody Try.prog 196 = true := by kernel_rfl
theorem fb57 : hasBody Try.prog 57 = true := by kernel_rfl
theorem fb108 : hasBody Try.prog 108 = true := by kernel_rfl
theorem fb129 : hasBody Try.prog 129 = true := by kernel_rfl
theorem fb130 : hasBody Try.prog 130 = true := by kernel_rfl
theorem fb147 : hasBody Try.prog 147 = true := by kernel_rfl
theorem z50 : tyZero Try.prog 50 = some [.slice none 0 0] := by kernel_rfl
theorem fb132 : hasBody Try.prog 132 = true := by kernel_rfl
theorem fb133 : hasBody Try.prog 133 = true := by kernel_rfl
theorem sh54 : tySh Try.prog 54 = some (true, 4) := by kernel_rfl
theorem fb43 : hasBody Try.prog 43 = true := by kernel_rfl
theorem s23 : tyStruct Try.prog 23 = some ([(0, 1), (1, 1)], [.int .i64 0, .int .i64 0]) := by kernel_rfl
theorem s52 : tyStruct Try.prog 52 = some ([(0, 1), (1, 1), (2, 1), (3, 1)], [.int .i64 0, .int .i64 0, .int .i64 0, .slice none 0 0]) := by kernel_rfl
theorem s54 : tyStruct Try.prog 54 = some ([(0, 2), (2, 2)], [.int .i64 0, .int .i64 0, .int .i64 0, .int .i64 0]) := by kernel_rfl
theorem z52 : tyZero Try.prog 52 = some [.int .i64 0, .int .i64 0, .int .i64 0, .slice none 0 0] := by kernel_rfl
theorem fb52 : hasBody Try.prog 52 = true := by kernel_rfl
theorem fb98 : hasBody Try.prog 98 = true := by kernel_rfl
theorem fb106 : hasBody Try.prog 106 = true := by kernel_rfl
theorem fb45 : hasBody Try.prog 45 = true := by kernel_rfl
theorem fb67 : hasBody Try.prog 67 = true := by kernel_rfl
theorem fb40 : hasBody Try.prog 40 = true := by kernel_rfl
theorem fb41 : hasBody Try.prog 41 = true := by kernel_rfl
theorem fb46 : hasBody Try.prog 46 = true := by kernel_rfl
theorem fb47 : hasBody Try.prog 47 = true := by kernel_rfl
theorem fb48 : hasBody Try.prog 48 = true := by kernel_rfl
theorem fb164 : hasBody Try.prog 164 = true := by kernel_rfl
theorem fb165 : hasBody Try.prog 165 = true := by kernel_rfl
theorem fb166 : hasBody Try.prog 166 = true := by kernel_rfl
theorem fb167 : hasBody Try.prog 167 = true := by kernel_rfl
theorem sh249 : tySh Try.prog 249 = some (false, 1) := by kernel_rfl
theorem fb168 : hasBody Try.prog 168 = true := by kernel_rfl
theorem z249 : tyZero Try.prog 249 = some [.nilFunc] := by kernel_rfl
theorem fb77 : hasBody Try.prog 77 = true := by kernel_rfl
theorem fb78 : hasBody Try.prog 78 = true := by kernel_rfl
theorem z3 : tyZero Try.prog 3 = some [.int .i64 0] := by kernel_rfl
theorem fb135 : hasBody Try.prog 135 = true := by kernel_rfl
theorem fb42 : hasBody Try.prog 42 = true := by kernel_rfl
theorem fb44 : hasBody Try.prog 44 = true := by kernel_rfl
theorem z54 : tyZero Try.prog 54 = some [.int .i64 0, .int .i64 0, .int .i64 0, .int .i64 0] := by kernel_rfl
theorem fb221 : hasBody Try.prog 221 = true := by kernel_rfl
theorem sh68 : tySh Try.prog 68 = some (false, 1) := by kernel_rfl
theorem fb138 : hasBody Try.prog 138 = true := by kernel_rfl
theorem fb139 : hasBody Try.prog 139 = true := by kernel_rfl
theorem fb140 : hasBody Try.prog 140 = true := by kernel_rfl
theorem sh24 : tySh Try.prog 24 = some (false, 1) := by kernel_rfl
theorem fb49 : hasBody Try.prog 49 = true := by kernel_rfl
theorem fb50 : hasBody Try.prog 50 = true := by kernel_rfl
theorem fb51 : hasBody Try.prog 51 = true := by kernel_rfl
theorem sh25 : tySh Try.prog 25 = some (true, 2) := by kernel_rfl
theorem fb174 : hasBody Try.prog 174 = true := by kernel_rfl
theorem fb170 : hasBody Try.prog 170 = true := by kernel_rfl
theorem fb251 : hasBody Try.prog 251 = true := by kernel_rfl
theorem fb169 : hasBody Try.prog 169 = true := by kernel_rfl
theorem fb171 : hasBody Try.prog 171 = true := by kernel_rfl
theorem fb172 : hasBody Try.prog 172 = true := by kernel_rfl
theorem fb173 : hasBody Try.prog 173 = true := by kernel_rfl
theorem fb175 : hasBody Try.prog 175 = true := by kernel_rfl
theorem fb59 : hasBody Try.prog 59 = true := by kernel_rfl
theorem fb79 : hasBody Try.prog 79 = true := by kernel_rfl
theorem fb80 : hasBody Try.prog 80 = true := by kernel_rfl
theorem fb81 : hasBody Try.prog 81 = true := by kernel_rfl
theorem fb82 : hasBody Try.prog 82 = true := by kernel_rfl
theorem fb145 : hasBody Try.prog 145 = true := by kernel_rfl
theorem fb224 : hasBody Try.prog 224 = true := by kernel_rfl
theorem fb225 : hasBody Try.prog 225 = true := by kernel_rfl
theorem fb146 : hasBody Try.prog 146 = true := by kernel_rfl
theorem sh5 : tySh Try.prog 5 = some (false, 1) := by kernel_rfl
theorem fb53 : hasBody Try.prog 53 = true := by kernel_rfl
theorem fb54 : hasBody Try.prog 54 = true := by kernel_rfl
theorem fb55 : hasBody Try.prog 55 = true := by kernel_rfl
theorem fb56 : hasBody Try.prog 56 = true := by kernel_rfl
theorem fb58 : hasBody Try.prog 58 = true := by kernel_rfl
theorem sh76 : tySh Try.prog 76 = some (true, 2) := by kernel_rfl
theorem fb94 : hasBody Try.prog 94 = true := by kernel_rfl
theorem fb99 : hasBody Try.prog 99 = true := by kernel_rfl
theorem fb100 : hasBody Try.prog 100 = true := by kernel_rfl
theorem fb188 : hasBody Try.prog 188 = true := by kernel_rfl
theorem sh192 : tySh Try.prog 192 = some (false, 1) := by kernel_rfl
theorem sh201 : tySh Try.prog 201 = some (false, 1) := by kernel_rfl
theorem sh264 : tySh Try.prog 264 = some (true, 8) := by kernel_rfl
theorem z264 : tyZero Try.prog 264 = some [.int .i64 0, .int .i64 0, .int .i64 0, .int .i64 0, .int .i64 0, .int .i64 0, .int .i64 0, .int .i64 0] := by kernel_rfl
theorem fb187 : hasBody Try.prog 187 = true := by kernel_rfl
theorem sh263 : tySh Try.prog 263 = some (false, 1) := by kernel_rfl
theorem sh28 : tySh Try.prog 28 = some (false, 1) := by kernel_rfl
theorem sh134 : tySh Try.prog 134 = some (false, 1) := by kernel_rfl
theorem z28 : tyZero Try.prog 28 = some [.int .i64 0] := by kernel_rfl
theorem z134 : tyZero Try.prog 134 = some [.slice none 0 0] := by kernel_rfl
theorem z192 : tyZero Try.prog 192 = some [.pointer none] := by kernel_rfl
theorem z201 : tyZero Try.prog 201 = some [.map none] := by kernel_rfl
theorem z263 : tyZero Try.prog 263 = some [.nilFunc] := by kernel_rfl
theorem fb92 : hasBody Try.prog 92 = true := by kernel_rfl
theorem fb93 : hasBody Try.prog 93 = true := by kernel_rfl
end Go.J
