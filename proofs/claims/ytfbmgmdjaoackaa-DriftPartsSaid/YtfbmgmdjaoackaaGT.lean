/-
  Lemmas for the statements of this seat; no statement is proved here. No condition.
-/
import Derived.Test.YtfbmgmdjaoackaaM1
import Derived.Test.YtfbmgmdjaoackaaProg
namespace Go.J
open Go.Proofs
set_option maxRecDepth 8000
theorem mixed : Try.prog.follows .mixedOrders = true := by kernel_rfl
theorem fb144 : hasBody Try.prog 144 = true := by kernel_rfl
theorem s140 : tyStruct Try.prog 140 = some ([(0, 1), (1, 1), (2, 1)], [.int .i64 0, .int .i64 0, .int .i64 0]) := by kernel_rfl
theorem sh3 : tySh Try.prog 3 = some (false, 1) := by kernel_rfl
theorem sh140 : tySh Try.prog 140 = some (true, 3) := by kernel_rfl
theorem z140 : tyZero Try.prog 140 = some [.int .i64 0, .int .i64 0, .int .i64 0] := by kernel_rfl
theorem fb220 : hasBody Try.prog 220 = true := by kernel_rfl
theorem fb274 : hasBody Try.prog 274 = true := by kernel_rfl
theorem sh23 : tySh Try.prog 23 = some (true, 2) := by kernel_rfl
theorem sh50 : tySh Try.prog 50 = some (false, 1) := by kernel_rfl
theorem fb136 : hasBody Try.prog 136 = true := by kernel_rfl
theorem fb137 : hasBody Try.prog 137 = true := by kernel_rfl
theorem fb216 : hasBody Try.prog 216 = true := by kernel_rfl
theorem sh52 : tySh Try.prog 52 = some (true, 4) := by kernel_rfl
theorem s306 : tyStruct Try.prog 306 = some ([(0, 1), (1, 1)], [.int .i64 0, .int .i64 0]) := by kernel_rfl
theorem sh193 : tySh Try.prog 193 = some (false, 1) := by kernel_rfl
theorem sh306 : tySh Try.prog 306 = some (true, 2) := by kernel_rfl
theorem z306 : tyZero Try.prog 306 = some [.int .i64 0, .int .i64 0] := by kernel_rfl
theorem fb284 : hasBody Try.prog 284 = true := by kernel_rfl
theorem fb293 : hasBody Try.prog 293 = true := by kernel_rfl
theorem fb310 : hasBody Try.prog 310 = true := by kernel_rfl
theorem fb275 : hasBody Try.prog 275 = true := by kernel_rfl
theorem fb219 : hasBody Try.prog 219 = true := by kernel_rfl
theorem fb217 : hasBody Try.prog 217 = true := by kernel_rfl
theorem fb141 : hasBody Try.prog 141 = true := by kernel_rfl
theorem fb143 : hasBody Try.prog 143 = true := by kernel_rfl
theorem fb214 : hasBody Try.prog 214 = true := by kernel_rfl
theorem fb215 : hasBody Try.prog 215 = true := by kernel_rfl
theorem s62 : tyStruct Try.prog 62 = some ([(0, 1), (1, 1)], [.int .i64 0, .int .i64 0]) := by kernel_rfl
theorem sh62 : tySh Try.prog 62 = some (true, 2) := by kernel_rfl
theorem z23 : tyZero Try.prog 23 = some [.int .i64 0, .int .i64 0] := by kernel_rfl
theorem z62 : tyZero Try.prog 62 = some [.int .i64 0, .int .i64 0] := by kernel_rfl
theorem fb131 : hasBody Try.prog 131 = true := by kernel_rfl
theorem fb134 : hasBody Try.prog 134 = true := by kernel_rfl
theorem fb57 : hasBody Try.prog 57 = true := by kernel_rfl
theorem fb129 : hasBody Try.prog 129 = true := by kernel_rfl
theorem fb130 : hasBody Try.prog 130 = true := by kernel_rfl
theorem fb147 : hasBody Try.prog 147 = true := by kernel_rfl
theorem z50 : tyZero Try.prog 50 = some [.slice none 0 0] := by kernel_rfl
theorem fb132 : hasBody Try.prog 132 = true := by kernel_rfl
theorem fb133 : hasBody Try.prog 133 = true := by kernel_rfl
theorem sh54 : tySh Try.prog 54 = some (true, 4) := by kernel_rfl
theorem fb43 : hasBody Try.prog 43 = true := by kernel_rfl
theorem s23 : tyStruct Try.prog 23 = some ([(0, 1), (1, 1)], [.int .i64 0, .int .i64 0]) := by kernel_rfl
theorem s52 : tyStruct Try.prog 52 = some ([(0, 1), (1, 1), (2, 1), (3, 1)], [.int .i64 0, .int .i64 0, .int .i64 0, .slice none 0 0]) := by kernel_rfl
theorem s54 : tyStruct Try.prog 54 = some ([(0, 2), (2, 2)], [.int .i64 0, .int .i64 0, .int .i64 0, .int .i64 0]) := by kernel_rfl
theorem fb67 : hasBody Try.prog 67 = true := by kernel_rfl
theorem fb41 : hasBody Try.prog 41 = true := by kernel_rfl
theorem fb48 : hasBody Try.prog 48 = true := by kernel_rfl
theorem fb42 : hasBody Try.prog 42 = true := by kernel_rfl
theorem z54 : tyZero Try.prog 54 = some [.int .i64 0, .int .i64 0, .int .i64 0, .int .i64 0] := by kernel_rfl
theorem fb221 : hasBody Try.prog 221 = true := by kernel_rfl
theorem sh68 : tySh Try.prog 68 = some (false, 1) := by kernel_rfl
theorem fb49 : hasBody Try.prog 49 = true := by kernel_rfl
theorem fb138 : hasBody Try.prog 138 = true := by kernel_rfl
theorem fb139 : hasBody Try.prog 139 = true := by kernel_rfl
theorem fb145 : hasBody Try.prog 145 = true := by kernel_rfl
theorem fb224 : hasBody Try.prog 224 = true := by kernel_rfl
theorem fb99 : hasBody Try.prog 99 = true := by kernel_rfl
theorem fb100 : hasBody Try.prog 100 = true := by kernel_rfl
theorem sh28 : tySh Try.prog 28 = some (false, 1) := by kernel_rfl
theorem z28 : tyZero Try.prog 28 = some [.int .i64 0] := by kernel_rfl
theorem fb204 : hasBody Try.prog 204 = true := by kernel_rfl
theorem s358 : tyStruct Try.prog 358 = some ([(0, 1), (1, 1)], [.int .i64 0, .int .i64 0]) := by kernel_rfl
theorem sh358 : tySh Try.prog 358 = some (true, 2) := by kernel_rfl
theorem z358 : tyZero Try.prog 358 = some [.int .i64 0, .int .i64 0] := by kernel_rfl
theorem fb278 : hasBody Try.prog 278 = true := by kernel_rfl
theorem fb294 : hasBody Try.prog 294 = true := by kernel_rfl
theorem fb295 : hasBody Try.prog 295 = true := by kernel_rfl
theorem sh218 : tySh Try.prog 218 = some (true, 7) := by kernel_rfl
theorem fb276 : hasBody Try.prog 276 = true := by kernel_rfl
theorem fb277 : hasBody Try.prog 277 = true := by kernel_rfl
theorem sh82 : tySh Try.prog 82 = some (false, 1) := by kernel_rfl
theorem z218 : tyZero Try.prog 218 = some [.int .i64 0, .int .i64 0, .slice none 0 0, .int .i64 0, .int .i64 0, .int .i64 0, .int .i64 0] := by kernel_rfl
theorem fb226 : hasBody Try.prog 226 = true := by kernel_rfl
theorem fb227 : hasBody Try.prog 227 = true := by kernel_rfl
theorem s90 : tyStruct Try.prog 90 = some ([(0, 1), (1, 1), (2, 1), (3, 1), (4, 1)], [.int .i64 0, .slice none 0 0, .slice none 0 0, .slice none 0 0, .bool false]) := by kernel_rfl
theorem sh84 : tySh Try.prog 84 = some (true, 2) := by kernel_rfl
theorem sh86 : tySh Try.prog 86 = some (true, 5) := by kernel_rfl
theorem sh90 : tySh Try.prog 90 = some (true, 5) := by kernel_rfl
theorem sh292 : tySh Try.prog 292 = some (true, 3) := by kernel_rfl
theorem z90 : tyZero Try.prog 90 = some [.int .i64 0, .slice none 0 0, .slice none 0 0, .slice none 0 0, .bool false] := by kernel_rfl
theorem z292 : tyZero Try.prog 292 = some [.slice none 0 0, .slice none 0 0, .slice none 0 0] := by kernel_rfl
theorem fb268 : hasBody Try.prog 268 = true := by kernel_rfl
theorem fb269 : hasBody Try.prog 269 = true := by kernel_rfl
theorem fb270 : hasBody Try.prog 270 = true := by kernel_rfl
theorem fb271 : hasBody Try.prog 271 = true := by kernel_rfl
theorem fb272 : hasBody Try.prog 272 = true := by kernel_rfl
theorem fb202 : hasBody Try.prog 202 = true := by kernel_rfl
theorem fb203 : hasBody Try.prog 203 = true := by kernel_rfl
theorem sh290 : tySh Try.prog 290 = some (false, 1) := by kernel_rfl
theorem sh333 : tySh Try.prog 333 = some (false, 1) := by kernel_rfl
theorem fb205 : hasBody Try.prog 205 = true := by kernel_rfl
theorem fb281 : hasBody Try.prog 281 = true := by kernel_rfl
theorem s330 : tyStruct Try.prog 330 = some ([(0, 4), (4, 1)], [.int .i64 0, .int .i64 0, .int .i64 0, .int .i64 0, .slice none 0 0]) := by kernel_rfl
theorem sh220 : tySh Try.prog 220 = some (true, 11) := by kernel_rfl
theorem sh326 : tySh Try.prog 326 = some (false, 1) := by kernel_rfl
theorem sh330 : tySh Try.prog 330 = some (true, 5) := by kernel_rfl
theorem z326 : tyZero Try.prog 326 = some [.slice none 0 0] := by kernel_rfl
theorem z330 : tyZero Try.prog 330 = some [.int .i64 0, .int .i64 0, .int .i64 0, .int .i64 0, .slice none 0 0] := by kernel_rfl
theorem fb238 : hasBody Try.prog 238 = true := by kernel_rfl
theorem sh4 : tySh Try.prog 4 = some (false, 1) := by kernel_rfl
theorem z290 : tyZero Try.prog 290 = some [.map none] := by kernel_rfl
theorem fb230 : hasBody Try.prog 230 = true := by kernel_rfl
theorem fb235 : hasBody Try.prog 235 = true := by kernel_rfl
theorem fb236 : hasBody Try.prog 236 = true := by kernel_rfl
theorem sh325 : tySh Try.prog 325 = some (true, 2) := by kernel_rfl
theorem z325 : tyZero Try.prog 325 = some [.map none, .map none] := by kernel_rfl
theorem fb231 : hasBody Try.prog 231 = true := by kernel_rfl
theorem fb234 : hasBody Try.prog 234 = true := by kernel_rfl
theorem fb237 : hasBody Try.prog 237 = true := by kernel_rfl
theorem fb148 : hasBody Try.prog 148 = true := by kernel_rfl
theorem fb149 : hasBody Try.prog 149 = true := by kernel_rfl
theorem fb151 : hasBody Try.prog 151 = true := by kernel_rfl
theorem s84 : tyStruct Try.prog 84 = some ([(0, 1), (1, 1)], [.slice none 0 0, .slice none 0 0]) := by kernel_rfl
theorem s86 : tyStruct Try.prog 86 = some ([(0, 1), (1, 1), (2, 1), (3, 1), (4, 1)], [.int .i64 0, .int .i64 0, .int .i64 0, .int .i64 0, .bool false]) := by kernel_rfl
theorem s88 : tyStruct Try.prog 88 = some ([(0, 4), (4, 2), (6, 5)], [.int .i64 0, .int .i64 0, .int .i64 0, .slice none 0 0, .slice none 0 0, .slice none 0 0, .int .i64 0, .int .i64 0, .int .i64 0, .int .i64 0, .bool false]) := by kernel_rfl
theorem s218 : tyStruct Try.prog 218 = some ([(0, 1), (1, 1), (2, 1), (3, 2), (5, 2)], [.int .i64 0, .int .i64 0, .slice none 0 0, .int .i64 0, .int .i64 0, .int .i64 0, .int .i64 0]) := by kernel_rfl
theorem s220 : tyStruct Try.prog 220 = some ([(0, 4), (4, 2), (6, 5)], [.int .i64 0, .int .i64 0, .int .i64 0, .slice none 0 0, .slice none 0 0, .slice none 0 0, .int .i64 0, .int .i64 0, .int .i64 0, .int .i64 0, .bool false]) := by kernel_rfl
theorem sh88 : tySh Try.prog 88 = some (true, 11) := by kernel_rfl
theorem z84 : tyZero Try.prog 84 = some [.slice none 0 0, .slice none 0 0] := by kernel_rfl
theorem z88 : tyZero Try.prog 88 = some [.int .i64 0, .int .i64 0, .int .i64 0, .slice none 0 0, .slice none 0 0, .slice none 0 0, .int .i64 0, .int .i64 0, .int .i64 0, .int .i64 0, .bool false] := by kernel_rfl
theorem z220 : tyZero Try.prog 220 = some [.int .i64 0, .int .i64 0, .int .i64 0, .slice none 0 0, .slice none 0 0, .slice none 0 0, .int .i64 0, .int .i64 0, .int .i64 0, .int .i64 0, .bool false] := by kernel_rfl
theorem fb64 : hasBody Try.prog 64 = true := by kernel_rfl
theorem fb65 : hasBody Try.prog 65 = true := by kernel_rfl
theorem fb115 : hasBody Try.prog 115 = true := by kernel_rfl
theorem fb116 : hasBody Try.prog 116 = true := by kernel_rfl
theorem fb260 : hasBody Try.prog 260 = true := by kernel_rfl
theorem fb195 : hasBody Try.prog 195 = true := by kernel_rfl
theorem fb60 : hasBody Try.prog 60 = true := by kernel_rfl
theorem fb61 : hasBody Try.prog 61 = true := by kernel_rfl
theorem fb103 : hasBody Try.prog 103 = true := by kernel_rfl
theorem fb239 : hasBody Try.prog 239 = true := by kernel_rfl
theorem fb152 : hasBody Try.prog 152 = true := by kernel_rfl
theorem fb66 : hasBody Try.prog 66 = true := by kernel_rfl
theorem fb111 : hasBody Try.prog 111 = true := by kernel_rfl
theorem fb112 : hasBody Try.prog 112 = true := by kernel_rfl
theorem fb113 : hasBody Try.prog 113 = true := by kernel_rfl
theorem fb114 : hasBody Try.prog 114 = true := by kernel_rfl
end Go.J
