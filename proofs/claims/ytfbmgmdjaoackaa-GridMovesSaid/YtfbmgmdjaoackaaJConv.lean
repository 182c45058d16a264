/-
  Lemmas for the statements of this seat; no statement is proved here. No condition.
-/
import Derived.Test.YtfbmgmdjaoackaaJIter
namespace Go.J
set_option linter.unusedSimpArgs false
set_option linter.unusedVariables false
open Go.RowKit
/-! ## an int of another kind that an int holds -/
section
variable {P : Program} {N : Sz} {ops : Array Oper} {Q : Exit → Act → World → Prop} {rest : List Oper} {fr : Fr} {w w0 : World} {L : List HP}
  {d : Option Tmp} {ty : TypeId} {pos : String} {af : Array Edge}
theorem JL.convI {s t : TypeId} {x : Operand} {k0 : IntKind} {ds : TypeDesc} {n : Int} (hx : fr.ev x = some (.int k0 n)) (hs : P.underlying s = some ds) (hu : P.underlying t = some (.int .i64)) (hn : In64 n) (hd : Fr.fits N d = true)
    (k : JL P N ops Q rest (fr.put d (.int .i64 n)) w) : JL P N ops Q (⟨d, .convert s t x, ty, pos, af, none⟩ :: rest) fr w :=
  JL.conv hx hs hu hd (by rw [show IntKind.i64.wrap n = n from w64_id hn]; exact k)
end
section
variable {P : Program} {N : Sz} {ops : Array Oper} {Q : Exit → Act → World → Prop} {n : Nat} {es : List Nat} {Ls : Nat → List HP} {w0 : World} {fr0 : Nat → Fr} {Z : Fr → World → Prop}
variable {d : Option Tmp} {ty : TypeId} {pos : String} {af : Array Edge} {r : List Oper} {i : Nat} {ks : List Kn} {L : List HP}
theorem JD.convI {s t : TypeId} {x : Operand} {k0 : IntKind} {ds : TypeDesc} {m : Int} (hx : (frDet (depsOf af) ks (fr0 i)).ev x = some (.int k0 m)) (hs : P.underlying s = some ds) (hu : P.underlying t = some (.int .i64)) (hn : In64 m) (hd : Fr.fits N d = true)
    (k : JD P N ops Q n es Ls w0 fr0 Z r (i + 1) (.det i d (.int .i64 m) :: ks)) (he : neB es i = true := by rfl) (hs0 : noS ks i = true := by rfl) : JD P N ops Q n es Ls w0 fr0 Z (⟨d, .convert s t x, ty, pos, af, none⟩ :: r) i ks :=
  JD.conv hx hs hu hd (by rw [show IntKind.i64.wrap m = m from w64_id hn]; exact k) he hs0
end
end Go.J
