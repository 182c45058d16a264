/-
  No cell of these rows narrows 'for every input' (looked for: loops, veiled, ifaces, maps, wideKeys, modest, calm, conditions, laid).
  DERIVED. THE GIVEN ROWS OF THIS SEAT. 24 by the template 'for every input the law returns true; each argument reads behind the call as it read before'; 0 by the template 'total and deterministic' (their statements: YtfbmgmdjaoackaaTotals.lean).
  GIVEN WITH THE SEED: the statements are not yours to turn. If you find one false, say at which input.
  Laid BY PROGRAM, IN A SANDBOX (cutbox-rows.mjs): the forced cells as the released guide's own fill.sh prints them over the translation 68cc38c202979844… (all of the seat's roots in one cut). By AI agents, Wed Nov 11 2026. No macro, syntax, notation, axiom, sorry.
-/
import Derived.Test.YtfbmgmdjaoackaaChecked
import GoSem.Claim
import GoSem.ClaimJoined
import GoSem.ClaimMapViews
import Derived.JoinedTies
import Derived.KernelRfl
namespace Go.Proofs.Ytfbmgmdjaoackaa
/- THE CELL 'sum', in the pinned program and in every row, IS THE sha256 OF THE DUMP (.gsa) THAT YtfbmgmdjaoackaaProg.lean LOADS. Nothing in Lean hashes anything: it is a label: what it is worth is what the hold of that sum in a sandbox is worth. -/
noncomputable def Try.pinned : Pinned := { name := "ytfbmgmdjaoackaa", sum := "68cc38c202979844582a82be6cd841d70bd315000d22d9709a8c899c4bba3121", checked := Try.checked }
namespace Rows
def none {H : Type} : Left H := { results := [], args := [] }

/-- 'cressetlaw08.TracksBoxes': WHATEVER THE INPUT: true; the input reads as it did. -/
def tracksBoxesSpec : ChangeSpec := { name := "tracksBoxes", fn := fun _ => fun
  | [d1, d2, d3, d4, d5] => { results := [.lit (.bool true)], args := [d1, d2, d3, d4, d5] }
  | _ => none }
def tracksBoxesRow : OpenClaim := { program := "ytfbmgmdjaoackaa", sum := "68cc38c202979844582a82be6cd841d70bd315000d22d9709a8c899c4bba3121", func := "cresset/cressetlaw08.TracksBoxes", spec := "tracksBoxes", unfollowed := true, recurses := true, plainKeys := false, apart := false }
def TracksBoxesSaid : Prop := tracksBoxesRow.holds Try.pinned (OpenSpec.ofChange tracksBoxesSpec)

/-- ITS FALSE NEIGHBOUR: 'it returns false'. Refute it at one input. -/
def tracksBoxesWrong : ChangeSpec := { name := "tracksBoxes", fn := fun _ => fun
  | [d1, d2, d3, d4, d5] => { results := [.lit (.bool false)], args := [d1, d2, d3, d4, d5] }
  | _ => none }
def TracksBoxesWrongFalsely : Prop := tracksBoxesRow.holds Try.pinned (OpenSpec.ofChange tracksBoxesWrong)

/-- 'cressetlaw08.TracksLengths': WHATEVER THE INPUT: true; the input reads as it did. -/
def tracksLengthsSpec : ChangeSpec := { name := "tracksLengths", fn := fun _ => fun
  | [d1, d2] => { results := [.lit (.bool true)], args := [d1, d2] }
  | _ => none }
def tracksLengthsRow : OpenClaim := { program := "ytfbmgmdjaoackaa", sum := "68cc38c202979844582a82be6cd841d70bd315000d22d9709a8c899c4bba3121", func := "cresset/cressetlaw08.TracksLengths", spec := "tracksLengths", unfollowed := true, recurses := true, plainKeys := false, apart := false }
def TracksLengthsSaid : Prop := tracksLengthsRow.holds Try.pinned (OpenSpec.ofChange tracksLengthsSpec)

/-- ITS FALSE NEIGHBOUR: 'it returns false'. Refute it at one input. -/
def tracksLengthsWrong : ChangeSpec := { name := "tracksLengths", fn := fun _ => fun
  | [d1, d2] => { results := [.lit (.bool false)], args := [d1, d2] }
  | _ => none }
def TracksLengthsWrongFalsely : Prop := tracksLengthsRow.holds Try.pinned (OpenSpec.ofChange tracksLengthsWrong)

/-- 'cressetlaw08.TracksLong': WHATEVER THE INPUT: true; the input reads as it did. -/
def tracksLongSpec : ChangeSpec := { name := "tracksLong", fn := fun _ => fun
  | [d1, d2] => { results := [.lit (.bool true)], args := [d1, d2] }
  | _ => none }
def tracksLongRow : OpenClaim := { program := "ytfbmgmdjaoackaa", sum := "68cc38c202979844582a82be6cd841d70bd315000d22d9709a8c899c4bba3121", func := "cresset/cressetlaw08.TracksLong", spec := "tracksLong", unfollowed := true, recurses := true, plainKeys := false, apart := false }
def TracksLongSaid : Prop := tracksLongRow.holds Try.pinned (OpenSpec.ofChange tracksLongSpec)

/-- ITS FALSE NEIGHBOUR: 'it returns false'. Refute it at one input. -/
def tracksLongWrong : ChangeSpec := { name := "tracksLong", fn := fun _ => fun
  | [d1, d2] => { results := [.lit (.bool false)], args := [d1, d2] }
  | _ => none }
def TracksLongWrongFalsely : Prop := tracksLongRow.holds Try.pinned (OpenSpec.ofChange tracksLongWrong)

/-- 'cressetlaw03.GridMore': WHATEVER THE INPUT: true; the input reads as it did. -/
def gridMoreSpec : ChangeSpec := { name := "gridMore", fn := fun _ => fun
  | [d1, d2, d3, d4, d5] => { results := [.lit (.bool true)], args := [d1, d2, d3, d4, d5] }
  | _ => none }
def gridMoreRow : OpenClaim := { program := "ytfbmgmdjaoackaa", sum := "68cc38c202979844582a82be6cd841d70bd315000d22d9709a8c899c4bba3121", func := "cresset/cressetlaw03.GridMore", spec := "gridMore", unfollowed := true, recurses := true, plainKeys := false, apart := false }
def GridMoreSaid : Prop := gridMoreRow.holds Try.pinned (OpenSpec.ofChange gridMoreSpec)

/-- ITS FALSE NEIGHBOUR: 'it returns false'. Refute it at one input. -/
def gridMoreWrong : ChangeSpec := { name := "gridMore", fn := fun _ => fun
  | [d1, d2, d3, d4, d5] => { results := [.lit (.bool false)], args := [d1, d2, d3, d4, d5] }
  | _ => none }
def GridMoreWrongFalsely : Prop := gridMoreRow.holds Try.pinned (OpenSpec.ofChange gridMoreWrong)

/-- 'cressetlaw03.GridTight': WHATEVER THE INPUT: true; the input reads as it did. -/
def gridTightSpec : ChangeSpec := { name := "gridTight", fn := fun _ => fun
  | [d1, d2, d3, d4] => { results := [.lit (.bool true)], args := [d1, d2, d3, d4] }
  | _ => none }
def gridTightRow : OpenClaim := { program := "ytfbmgmdjaoackaa", sum := "68cc38c202979844582a82be6cd841d70bd315000d22d9709a8c899c4bba3121", func := "cresset/cressetlaw03.GridTight", spec := "gridTight", unfollowed := true, recurses := true, plainKeys := false, apart := false }
def GridTightSaid : Prop := gridTightRow.holds Try.pinned (OpenSpec.ofChange gridTightSpec)

/-- ITS FALSE NEIGHBOUR: 'it returns false'. Refute it at one input. -/
def gridTightWrong : ChangeSpec := { name := "gridTight", fn := fun _ => fun
  | [d1, d2, d3, d4] => { results := [.lit (.bool false)], args := [d1, d2, d3, d4] }
  | _ => none }
def GridTightWrongFalsely : Prop := gridTightRow.holds Try.pinned (OpenSpec.ofChange gridTightWrong)

/-- 'cressetlaw03.GridMoves': WHATEVER THE INPUT: true; the input reads as it did. -/
def gridMovesSpec : ChangeSpec := { name := "gridMoves", fn := fun _ => fun
  | [d1, d2, d3, d4, d5, d6] => { results := [.lit (.bool true)], args := [d1, d2, d3, d4, d5, d6] }
  | _ => none }
def gridMovesRow : OpenClaim := { program := "ytfbmgmdjaoackaa", sum := "68cc38c202979844582a82be6cd841d70bd315000d22d9709a8c899c4bba3121", func := "cresset/cressetlaw03.GridMoves", spec := "gridMoves", unfollowed := true, recurses := true, plainKeys := false, apart := false }
def GridMovesSaid : Prop := gridMovesRow.holds Try.pinned (OpenSpec.ofChange gridMovesSpec)

/-- ITS FALSE NEIGHBOUR: 'it returns false'. Refute it at one input. -/
def gridMovesWrong : ChangeSpec := { name := "gridMoves", fn := fun _ => fun
  | [d1, d2, d3, d4, d5, d6] => { results := [.lit (.bool false)], args := [d1, d2, d3, d4, d5, d6] }
  | _ => none }
def GridMovesWrongFalsely : Prop := gridMovesRow.holds Try.pinned (OpenSpec.ofChange gridMovesWrong)

/-- 'cressetlaw03.GridLong': WHATEVER THE INPUT: true; the input reads as it did. -/
def gridLongSpec : ChangeSpec := { name := "gridLong", fn := fun _ => fun
  | [d1, d2, d3] => { results := [.lit (.bool true)], args := [d1, d2, d3] }
  | _ => none }
def gridLongRow : OpenClaim := { program := "ytfbmgmdjaoackaa", sum := "68cc38c202979844582a82be6cd841d70bd315000d22d9709a8c899c4bba3121", func := "cresset/cressetlaw03.GridLong", spec := "gridLong", unfollowed := true, recurses := true, plainKeys := false, apart := false }
def GridLongSaid : Prop := gridLongRow.holds Try.pinned (OpenSpec.ofChange gridLongSpec)

/-- ITS FALSE NEIGHBOUR: 'it returns false'. Refute it at one input. -/
def gridLongWrong : ChangeSpec := { name := "gridLong", fn := fun _ => fun
  | [d1, d2, d3] => { results := [.lit (.bool false)], args := [d1, d2, d3] }
  | _ => none }
def GridLongWrongFalsely : Prop := gridLongRow.holds Try.pinned (OpenSpec.ofChange gridLongWrong)

/-- 'cressetlaw04.DriftBacks': WHATEVER THE INPUT: true; the input reads as it did. -/
def driftBacksSpec : ChangeSpec := { name := "driftBacks", fn := fun _ => fun
  | [d1, d2, d3, d4] => { results := [.lit (.bool true)], args := [d1, d2, d3, d4] }
  | _ => none }
def driftBacksRow : OpenClaim := { program := "ytfbmgmdjaoackaa", sum := "68cc38c202979844582a82be6cd841d70bd315000d22d9709a8c899c4bba3121", func := "cresset/cressetlaw04.DriftBacks", spec := "driftBacks", unfollowed := true, recurses := true, plainKeys := false, apart := false }
def DriftBacksSaid : Prop := driftBacksRow.holds Try.pinned (OpenSpec.ofChange driftBacksSpec)

/-- ITS FALSE NEIGHBOUR: 'it returns false'. Refute it at one input. -/
def driftBacksWrong : ChangeSpec := { name := "driftBacks", fn := fun _ => fun
  | [d1, d2, d3, d4] => { results := [.lit (.bool false)], args := [d1, d2, d3, d4] }
  | _ => none }
def DriftBacksWrongFalsely : Prop := driftBacksRow.holds Try.pinned (OpenSpec.ofChange driftBacksWrong)

/-- 'cressetlaw13.ShareSame': WHATEVER THE INPUT: true; the input reads as it did. -/
def shareSameSpec : ChangeSpec := { name := "shareSame", fn := fun _ => fun
  | [d] => { results := [.lit (.bool true)], args := [d] }
  | _ => none }
def shareSameRow : OpenClaim := { program := "ytfbmgmdjaoackaa", sum := "68cc38c202979844582a82be6cd841d70bd315000d22d9709a8c899c4bba3121", func := "cresset/cressetlaw13.ShareSame", spec := "shareSame", inPlace := ["internal/bytealg.abigen_runtime_cmpstring"], unfollowed := true, recurses := true, plainKeys := false, apart := false }
def ShareSameSaid : Prop := shareSameRow.holds Try.pinned (OpenSpec.ofChange shareSameSpec)

/-- ITS FALSE NEIGHBOUR: 'it returns false'. Refute it at one input. -/
def shareSameWrong : ChangeSpec := { name := "shareSame", fn := fun _ => fun
  | [d] => { results := [.lit (.bool false)], args := [d] }
  | _ => none }
def ShareSameWrongFalsely : Prop := shareSameRow.holds Try.pinned (OpenSpec.ofChange shareSameWrong)

/-- 'cressetlaw13.ShareTrue': WHATEVER THE INPUT: true; the input reads as it did. -/
def shareTrueSpec : ChangeSpec := { name := "shareTrue", fn := fun _ => fun
  | [d] => { results := [.lit (.bool true)], args := [d] }
  | _ => none }
def shareTrueRow : OpenClaim := { program := "ytfbmgmdjaoackaa", sum := "68cc38c202979844582a82be6cd841d70bd315000d22d9709a8c899c4bba3121", func := "cresset/cressetlaw13.ShareTrue", spec := "shareTrue", inPlace := ["internal/bytealg.abigen_runtime_cmpstring"], unfollowed := true, recurses := true, plainKeys := false, apart := false }
def ShareTrueSaid : Prop := shareTrueRow.holds Try.pinned (OpenSpec.ofChange shareTrueSpec)

/-- ITS FALSE NEIGHBOUR: 'it returns false'. Refute it at one input. -/
def shareTrueWrong : ChangeSpec := { name := "shareTrue", fn := fun _ => fun
  | [d] => { results := [.lit (.bool false)], args := [d] }
  | _ => none }
def ShareTrueWrongFalsely : Prop := shareTrueRow.holds Try.pinned (OpenSpec.ofChange shareTrueWrong)

/-- 'cressetlaw03.GridReaches': WHATEVER THE INPUT: true; the input reads as it did. -/
def gridReachesSpec : ChangeSpec := { name := "gridReaches", fn := fun _ => fun
  | [d1, d2, d3, d4, d5] => { results := [.lit (.bool true)], args := [d1, d2, d3, d4, d5] }
  | _ => none }
def gridReachesRow : OpenClaim := { program := "ytfbmgmdjaoackaa", sum := "68cc38c202979844582a82be6cd841d70bd315000d22d9709a8c899c4bba3121", func := "cresset/cressetlaw03.GridReaches", spec := "gridReaches", unfollowed := true, recurses := true, plainKeys := false, apart := false }
def GridReachesSaid : Prop := gridReachesRow.holds Try.pinned (OpenSpec.ofChange gridReachesSpec)

/-- ITS FALSE NEIGHBOUR: 'it returns false'. Refute it at one input. -/
def gridReachesWrong : ChangeSpec := { name := "gridReaches", fn := fun _ => fun
  | [d1, d2, d3, d4, d5] => { results := [.lit (.bool false)], args := [d1, d2, d3, d4, d5] }
  | _ => none }
def GridReachesWrongFalsely : Prop := gridReachesRow.holds Try.pinned (OpenSpec.ofChange gridReachesWrong)

/-- 'cressetlaw03.GridShapes': WHATEVER THE INPUT: true; the input reads as it did. -/
def gridShapesSpec : ChangeSpec := { name := "gridShapes", fn := fun _ => fun
  | [d1, d2, d3, d4] => { results := [.lit (.bool true)], args := [d1, d2, d3, d4] }
  | _ => none }
def gridShapesRow : OpenClaim := { program := "ytfbmgmdjaoackaa", sum := "68cc38c202979844582a82be6cd841d70bd315000d22d9709a8c899c4bba3121", func := "cresset/cressetlaw03.GridShapes", spec := "gridShapes", unfollowed := true, recurses := true, plainKeys := false, apart := false }
def GridShapesSaid : Prop := gridShapesRow.holds Try.pinned (OpenSpec.ofChange gridShapesSpec)

/-- ITS FALSE NEIGHBOUR: 'it returns false'. Refute it at one input. -/
def gridShapesWrong : ChangeSpec := { name := "gridShapes", fn := fun _ => fun
  | [d1, d2, d3, d4] => { results := [.lit (.bool false)], args := [d1, d2, d3, d4] }
  | _ => none }
def GridShapesWrongFalsely : Prop := gridShapesRow.holds Try.pinned (OpenSpec.ofChange gridShapesWrong)

/-- 'cressetlaw13.ShareChecks': WHATEVER THE INPUT: true; the input reads as it did. -/
def shareChecksSpec : ChangeSpec := { name := "shareChecks", fn := fun _ => fun
  | [d1, d2, d3, d4] => { results := [.lit (.bool true)], args := [d1, d2, d3, d4] }
  | _ => none }
def shareChecksRow : OpenClaim := { program := "ytfbmgmdjaoackaa", sum := "68cc38c202979844582a82be6cd841d70bd315000d22d9709a8c899c4bba3121", func := "cresset/cressetlaw13.ShareChecks", spec := "shareChecks", inPlace := ["internal/bytealg.abigen_runtime_cmpstring"], unfollowed := true, recurses := true, plainKeys := false, apart := false }
def ShareChecksSaid : Prop := shareChecksRow.holds Try.pinned (OpenSpec.ofChange shareChecksSpec)

/-- ITS FALSE NEIGHBOUR: 'it returns false'. Refute it at one input. -/
def shareChecksWrong : ChangeSpec := { name := "shareChecks", fn := fun _ => fun
  | [d1, d2, d3, d4] => { results := [.lit (.bool false)], args := [d1, d2, d3, d4] }
  | _ => none }
def ShareChecksWrongFalsely : Prop := shareChecksRow.holds Try.pinned (OpenSpec.ofChange shareChecksWrong)

/-- 'cressetlaw13.ShareStays': WHATEVER THE INPUT: true; the input reads as it did. -/
def shareStaysSpec : ChangeSpec := { name := "shareStays", fn := fun _ => fun
  | [d1, d2] => { results := [.lit (.bool true)], args := [d1, d2] }
  | _ => none }
def shareStaysRow : OpenClaim := { program := "ytfbmgmdjaoackaa", sum := "68cc38c202979844582a82be6cd841d70bd315000d22d9709a8c899c4bba3121", func := "cresset/cressetlaw13.ShareStays", spec := "shareStays", inPlace := ["internal/bytealg.abigen_runtime_cmpstring"], unfollowed := true, recurses := true, plainKeys := false, apart := false }
def ShareStaysSaid : Prop := shareStaysRow.holds Try.pinned (OpenSpec.ofChange shareStaysSpec)

/-- ITS FALSE NEIGHBOUR: 'it returns false'. Refute it at one input. -/
def shareStaysWrong : ChangeSpec := { name := "shareStays", fn := fun _ => fun
  | [d1, d2] => { results := [.lit (.bool false)], args := [d1, d2] }
  | _ => none }
def ShareStaysWrongFalsely : Prop := shareStaysRow.holds Try.pinned (OpenSpec.ofChange shareStaysWrong)

/-- 'cressetlaw13.ShareNeeds': WHATEVER THE INPUT: true; the input reads as it did. -/
def shareNeedsSpec : ChangeSpec := { name := "shareNeeds", fn := fun _ => fun
  | [d] => { results := [.lit (.bool true)], args := [d] }
  | _ => none }
def shareNeedsRow : OpenClaim := { program := "ytfbmgmdjaoackaa", sum := "68cc38c202979844582a82be6cd841d70bd315000d22d9709a8c899c4bba3121", func := "cresset/cressetlaw13.ShareNeeds", spec := "shareNeeds", inPlace := ["internal/bytealg.abigen_runtime_cmpstring"], unfollowed := true, recurses := true, plainKeys := false, apart := false }
def ShareNeedsSaid : Prop := shareNeedsRow.holds Try.pinned (OpenSpec.ofChange shareNeedsSpec)

/-- ITS FALSE NEIGHBOUR: 'it returns false'. Refute it at one input. -/
def shareNeedsWrong : ChangeSpec := { name := "shareNeeds", fn := fun _ => fun
  | [d] => { results := [.lit (.bool false)], args := [d] }
  | _ => none }
def ShareNeedsWrongFalsely : Prop := shareNeedsRow.holds Try.pinned (OpenSpec.ofChange shareNeedsWrong)

/-- 'cressetlaw03.GridConnected': WHATEVER THE INPUT: true; the input reads as it did. -/
def gridConnectedSpec : ChangeSpec := { name := "gridConnected", fn := fun _ => fun
  | [d1, d2] => { results := [.lit (.bool true)], args := [d1, d2] }
  | _ => none }
def gridConnectedRow : OpenClaim := { program := "ytfbmgmdjaoackaa", sum := "68cc38c202979844582a82be6cd841d70bd315000d22d9709a8c899c4bba3121", func := "cresset/cressetlaw03.GridConnected", spec := "gridConnected", unfollowed := true, recurses := true, plainKeys := false, apart := false }
def GridConnectedSaid : Prop := gridConnectedRow.holds Try.pinned (OpenSpec.ofChange gridConnectedSpec)

/-- ITS FALSE NEIGHBOUR: 'it returns false'. Refute it at one input. -/
def gridConnectedWrong : ChangeSpec := { name := "gridConnected", fn := fun _ => fun
  | [d1, d2] => { results := [.lit (.bool false)], args := [d1, d2] }
  | _ => none }
def GridConnectedWrongFalsely : Prop := gridConnectedRow.holds Try.pinned (OpenSpec.ofChange gridConnectedWrong)

/-- 'cressetlaw08.TracksCovers': WHATEVER THE INPUT: true; the input reads as it did. -/
def tracksCoversSpec : ChangeSpec := { name := "tracksCovers", fn := fun _ => fun
  | [d1, d2, d3, d4] => { results := [.lit (.bool true)], args := [d1, d2, d3, d4] }
  | _ => none }
def tracksCoversRow : OpenClaim := { program := "ytfbmgmdjaoackaa", sum := "68cc38c202979844582a82be6cd841d70bd315000d22d9709a8c899c4bba3121", func := "cresset/cressetlaw08.TracksCovers", spec := "tracksCovers", unfollowed := true, recurses := true, plainKeys := false, apart := false }
def TracksCoversSaid : Prop := tracksCoversRow.holds Try.pinned (OpenSpec.ofChange tracksCoversSpec)

/-- ITS FALSE NEIGHBOUR: 'it returns false'. Refute it at one input. -/
def tracksCoversWrong : ChangeSpec := { name := "tracksCovers", fn := fun _ => fun
  | [d1, d2, d3, d4] => { results := [.lit (.bool false)], args := [d1, d2, d3, d4] }
  | _ => none }
def TracksCoversWrongFalsely : Prop := tracksCoversRow.holds Try.pinned (OpenSpec.ofChange tracksCoversWrong)

/-- 'cressetlaw08.TracksReach': WHATEVER THE INPUT: true; the input reads as it did. -/
def tracksReachSpec : ChangeSpec := { name := "tracksReach", fn := fun _ => fun
  | [d1, d2, d3, d4, d5, d6] => { results := [.lit (.bool true)], args := [d1, d2, d3, d4, d5, d6] }
  | _ => none }
def tracksReachRow : OpenClaim := { program := "ytfbmgmdjaoackaa", sum := "68cc38c202979844582a82be6cd841d70bd315000d22d9709a8c899c4bba3121", func := "cresset/cressetlaw08.TracksReach", spec := "tracksReach", unfollowed := true, recurses := true, plainKeys := false, apart := false }
def TracksReachSaid : Prop := tracksReachRow.holds Try.pinned (OpenSpec.ofChange tracksReachSpec)

/-- ITS FALSE NEIGHBOUR: 'it returns false'. Refute it at one input. -/
def tracksReachWrong : ChangeSpec := { name := "tracksReach", fn := fun _ => fun
  | [d1, d2, d3, d4, d5, d6] => { results := [.lit (.bool false)], args := [d1, d2, d3, d4, d5, d6] }
  | _ => none }
def TracksReachWrongFalsely : Prop := tracksReachRow.holds Try.pinned (OpenSpec.ofChange tracksReachWrong)

/-- 'cressetlaw03.GridBoolean': WHATEVER THE INPUT: true; the input reads as it did. -/
def gridBooleanSpec : ChangeSpec := { name := "gridBoolean", fn := fun _ => fun
  | [d1, d2, d3, d4] => { results := [.lit (.bool true)], args := [d1, d2, d3, d4] }
  | _ => none }
def gridBooleanRow : OpenClaim := { program := "ytfbmgmdjaoackaa", sum := "68cc38c202979844582a82be6cd841d70bd315000d22d9709a8c899c4bba3121", func := "cresset/cressetlaw03.GridBoolean", spec := "gridBoolean", unfollowed := true, recurses := true, plainKeys := false, apart := false }
def GridBooleanSaid : Prop := gridBooleanRow.holds Try.pinned (OpenSpec.ofChange gridBooleanSpec)

/-- ITS FALSE NEIGHBOUR: 'it returns false'. Refute it at one input. -/
def gridBooleanWrong : ChangeSpec := { name := "gridBoolean", fn := fun _ => fun
  | [d1, d2, d3, d4] => { results := [.lit (.bool false)], args := [d1, d2, d3, d4] }
  | _ => none }
def GridBooleanWrongFalsely : Prop := gridBooleanRow.holds Try.pinned (OpenSpec.ofChange gridBooleanWrong)

/-- 'cressetlaw04.DriftKeeps': WHATEVER THE INPUT: true; the input reads as it did. -/
def driftKeepsSpec : ChangeSpec := { name := "driftKeeps", fn := fun _ => fun
  | [d1, d2, d3, d4, d5, d6] => { results := [.lit (.bool true)], args := [d1, d2, d3, d4, d5, d6] }
  | _ => none }
def driftKeepsRow : OpenClaim := { program := "ytfbmgmdjaoackaa", sum := "68cc38c202979844582a82be6cd841d70bd315000d22d9709a8c899c4bba3121", func := "cresset/cressetlaw04.DriftKeeps", spec := "driftKeeps", unfollowed := true, recurses := true, plainKeys := false, apart := false }
def DriftKeepsSaid : Prop := driftKeepsRow.holds Try.pinned (OpenSpec.ofChange driftKeepsSpec)

/-- ITS FALSE NEIGHBOUR: 'it returns false'. Refute it at one input. -/
def driftKeepsWrong : ChangeSpec := { name := "driftKeeps", fn := fun _ => fun
  | [d1, d2, d3, d4, d5, d6] => { results := [.lit (.bool false)], args := [d1, d2, d3, d4, d5, d6] }
  | _ => none }
def DriftKeepsWrongFalsely : Prop := driftKeepsRow.holds Try.pinned (OpenSpec.ofChange driftKeepsWrong)

/-- 'cressetlaw04.DriftMore': WHATEVER THE INPUT: true; the input reads as it did. -/
def driftMoreSpec : ChangeSpec := { name := "driftMore", fn := fun _ => fun
  | [d1, d2, d3, d4, d5] => { results := [.lit (.bool true)], args := [d1, d2, d3, d4, d5] }
  | _ => none }
def driftMoreRow : OpenClaim := { program := "ytfbmgmdjaoackaa", sum := "68cc38c202979844582a82be6cd841d70bd315000d22d9709a8c899c4bba3121", func := "cresset/cressetlaw04.DriftMore", spec := "driftMore", unfollowed := true, recurses := true, plainKeys := false, apart := false }
def DriftMoreSaid : Prop := driftMoreRow.holds Try.pinned (OpenSpec.ofChange driftMoreSpec)

/-- ITS FALSE NEIGHBOUR: 'it returns false'. Refute it at one input. -/
def driftMoreWrong : ChangeSpec := { name := "driftMore", fn := fun _ => fun
  | [d1, d2, d3, d4, d5] => { results := [.lit (.bool false)], args := [d1, d2, d3, d4, d5] }
  | _ => none }
def DriftMoreWrongFalsely : Prop := driftMoreRow.holds Try.pinned (OpenSpec.ofChange driftMoreWrong)

/-- 'cressetlaw03.GridNames': WHATEVER THE INPUT: true; the input reads as it did. -/
def gridNamesSpec : ChangeSpec := { name := "gridNames", fn := fun _ => fun
  | [] => { results := [.lit (.bool true)], args := [] }
  | _ => none }
def gridNamesRow : OpenClaim := { program := "ytfbmgmdjaoackaa", sum := "68cc38c202979844582a82be6cd841d70bd315000d22d9709a8c899c4bba3121", func := "cresset/cressetlaw03.GridNames", spec := "gridNames", inPlace := ["internal/abi.NoEscape", "internal/bytealg.MakeNoZero"], unfollowed := true, recurses := true, plainKeys := false, apart := false }
def GridNamesSaid : Prop := gridNamesRow.holds Try.pinned (OpenSpec.ofChange gridNamesSpec)

/-- ITS FALSE NEIGHBOUR: 'it returns false'. Refute it at one input. -/
def gridNamesWrong : ChangeSpec := { name := "gridNames", fn := fun _ => fun
  | [] => { results := [.lit (.bool false)], args := [] }
  | _ => none }
def GridNamesWrongFalsely : Prop := gridNamesRow.holds Try.pinned (OpenSpec.ofChange gridNamesWrong)

/-- 'cressetlaw04.DriftParts': WHATEVER THE INPUT: true; the input reads as it did. -/
def driftPartsSpec : ChangeSpec := { name := "driftParts", fn := fun _ => fun
  | [d1, d2, d3, d4] => { results := [.lit (.bool true)], args := [d1, d2, d3, d4] }
  | _ => none }
def driftPartsRow : OpenClaim := { program := "ytfbmgmdjaoackaa", sum := "68cc38c202979844582a82be6cd841d70bd315000d22d9709a8c899c4bba3121", func := "cresset/cressetlaw04.DriftParts", spec := "driftParts", unfollowed := true, recurses := true, plainKeys := false, apart := false }
def DriftPartsSaid : Prop := driftPartsRow.holds Try.pinned (OpenSpec.ofChange driftPartsSpec)

/-- ITS FALSE NEIGHBOUR: 'it returns false'. Refute it at one input. -/
def driftPartsWrong : ChangeSpec := { name := "driftParts", fn := fun _ => fun
  | [d1, d2, d3, d4] => { results := [.lit (.bool false)], args := [d1, d2, d3, d4] }
  | _ => none }
def DriftPartsWrongFalsely : Prop := driftPartsRow.holds Try.pinned (OpenSpec.ofChange driftPartsWrong)

/-- 'cressetlaw04.DriftNames': WHATEVER THE INPUT: true; the input reads as it did. -/
def driftNamesSpec : ChangeSpec := { name := "driftNames", fn := fun _ => fun
  | [] => { results := [.lit (.bool true)], args := [] }
  | _ => none }
def driftNamesRow : OpenClaim := { program := "ytfbmgmdjaoackaa", sum := "68cc38c202979844582a82be6cd841d70bd315000d22d9709a8c899c4bba3121", func := "cresset/cressetlaw04.DriftNames", spec := "driftNames", unfollowed := true, recurses := true, plainKeys := false, apart := false }
def DriftNamesSaid : Prop := driftNamesRow.holds Try.pinned (OpenSpec.ofChange driftNamesSpec)

/-- ITS FALSE NEIGHBOUR: 'it returns false'. Refute it at one input. -/
def driftNamesWrong : ChangeSpec := { name := "driftNames", fn := fun _ => fun
  | [] => { results := [.lit (.bool false)], args := [] }
  | _ => none }
def DriftNamesWrongFalsely : Prop := driftNamesRow.holds Try.pinned (OpenSpec.ofChange driftNamesWrong)

/- THE SECOND FORM. 'bulk': how many values and letters a reading holds, each counted each time it is reached (what is shared counts as often as it is met; a slice's spare places count too). A statement '..UptoSaid' is the law's where the arguments, and the package variables that the reading takes, are together of bulk at most 1048576: NARROWER than '..Said'. Prove '..Said' where nothing that the law and all that it calls make is longer than what came in: it says more and counts as full. Else prove '..UptoSaid'. A law counts once. -/
mutual
def uptoBulk {H : Type} : DataW H → Nat
  | .lit (.string bytes) => bytes.length + 1
  | .lit _ => 1
  | .nil => 1
  | .ptr d => uptoBulk d + 1
  | .slice elems spare => uptoBulkAll elems + uptoBulkAll spare + 1
  | .agg parts => uptoBulkAll parts + 1
  | .iface _ d => uptoBulk d + 1
  | .map entries => uptoBulkEntries entries + 1
  | .held _ => 1
def uptoBulkAll {H : Type} : List (DataW H) → Nat
  | [] => 0
  | d :: r => uptoBulk d + uptoBulkAll r
def uptoBulkEntries {H : Type} : List (Lit × DataW H) → Nat
  | [] => 0
  | x :: r => uptoBulkEntry x + uptoBulkEntries r
def uptoBulkEntry {H : Type} : Lit × DataW H → Nat
  | (.string bytes, d) => bytes.length + uptoBulk d + 1
  | (_, d) => uptoBulk d + 1
 end
def uptoSmall : (H : Type) → List (DataW H) → Bool := fun _ ds => decide (uptoBulkAll ds ≤ 1048576)
def OpenSpec.upto (s : _root_.Go.ChangeSpec) : _root_.Go.OpenSpec := { _root_.Go.OpenSpec.ofChange s with cond := some uptoSmall }

/-- 'cressetlaw08.TracksBoxes', WHERE WHAT IT READS IS OF BULK AT MOST 1048576: true; the input reads as it did. -/
def tracksBoxesUptoRow : OpenClaim := { program := "ytfbmgmdjaoackaa", sum := "68cc38c202979844582a82be6cd841d70bd315000d22d9709a8c899c4bba3121", func := "cresset/cressetlaw08.TracksBoxes", spec := "tracksBoxes", unfollowed := true, recurses := true, plainKeys := false, apart := false, narrowed := true }
def TracksBoxesUptoSaid : Prop := tracksBoxesUptoRow.holds Try.pinned (OpenSpec.upto tracksBoxesSpec)

/-- 'cressetlaw08.TracksLengths', WHERE WHAT IT READS IS OF BULK AT MOST 1048576: true; the input reads as it did. -/
def tracksLengthsUptoRow : OpenClaim := { program := "ytfbmgmdjaoackaa", sum := "68cc38c202979844582a82be6cd841d70bd315000d22d9709a8c899c4bba3121", func := "cresset/cressetlaw08.TracksLengths", spec := "tracksLengths", unfollowed := true, recurses := true, plainKeys := false, apart := false, narrowed := true }
def TracksLengthsUptoSaid : Prop := tracksLengthsUptoRow.holds Try.pinned (OpenSpec.upto tracksLengthsSpec)

/-- 'cressetlaw08.TracksLong', WHERE WHAT IT READS IS OF BULK AT MOST 1048576: true; the input reads as it did. -/
def tracksLongUptoRow : OpenClaim := { program := "ytfbmgmdjaoackaa", sum := "68cc38c202979844582a82be6cd841d70bd315000d22d9709a8c899c4bba3121", func := "cresset/cressetlaw08.TracksLong", spec := "tracksLong", unfollowed := true, recurses := true, plainKeys := false, apart := false, narrowed := true }
def TracksLongUptoSaid : Prop := tracksLongUptoRow.holds Try.pinned (OpenSpec.upto tracksLongSpec)

/-- 'cressetlaw03.GridMore', WHERE WHAT IT READS IS OF BULK AT MOST 1048576: true; the input reads as it did. -/
def gridMoreUptoRow : OpenClaim := { program := "ytfbmgmdjaoackaa", sum := "68cc38c202979844582a82be6cd841d70bd315000d22d9709a8c899c4bba3121", func := "cresset/cressetlaw03.GridMore", spec := "gridMore", unfollowed := true, recurses := true, plainKeys := false, apart := false, narrowed := true }
def GridMoreUptoSaid : Prop := gridMoreUptoRow.holds Try.pinned (OpenSpec.upto gridMoreSpec)

/-- 'cressetlaw03.GridTight', WHERE WHAT IT READS IS OF BULK AT MOST 1048576: true; the input reads as it did. -/
def gridTightUptoRow : OpenClaim := { program := "ytfbmgmdjaoackaa", sum := "68cc38c202979844582a82be6cd841d70bd315000d22d9709a8c899c4bba3121", func := "cresset/cressetlaw03.GridTight", spec := "gridTight", unfollowed := true, recurses := true, plainKeys := false, apart := false, narrowed := true }
def GridTightUptoSaid : Prop := gridTightUptoRow.holds Try.pinned (OpenSpec.upto gridTightSpec)

/-- 'cressetlaw03.GridMoves', WHERE WHAT IT READS IS OF BULK AT MOST 1048576: true; the input reads as it did. -/
def gridMovesUptoRow : OpenClaim := { program := "ytfbmgmdjaoackaa", sum := "68cc38c202979844582a82be6cd841d70bd315000d22d9709a8c899c4bba3121", func := "cresset/cressetlaw03.GridMoves", spec := "gridMoves", unfollowed := true, recurses := true, plainKeys := false, apart := false, narrowed := true }
def GridMovesUptoSaid : Prop := gridMovesUptoRow.holds Try.pinned (OpenSpec.upto gridMovesSpec)

/-- 'cressetlaw03.GridLong', WHERE WHAT IT READS IS OF BULK AT MOST 1048576: true; the input reads as it did. -/
def gridLongUptoRow : OpenClaim := { program := "ytfbmgmdjaoackaa", sum := "68cc38c202979844582a82be6cd841d70bd315000d22d9709a8c899c4bba3121", func := "cresset/cressetlaw03.GridLong", spec := "gridLong", unfollowed := true, recurses := true, plainKeys := false, apart := false, narrowed := true }
def GridLongUptoSaid : Prop := gridLongUptoRow.holds Try.pinned (OpenSpec.upto gridLongSpec)

/-- 'cressetlaw04.DriftBacks', WHERE WHAT IT READS IS OF BULK AT MOST 1048576: true; the input reads as it did. -/
def driftBacksUptoRow : OpenClaim := { program := "ytfbmgmdjaoackaa", sum := "68cc38c202979844582a82be6cd841d70bd315000d22d9709a8c899c4bba3121", func := "cresset/cressetlaw04.DriftBacks", spec := "driftBacks", unfollowed := true, recurses := true, plainKeys := false, apart := false, narrowed := true }
def DriftBacksUptoSaid : Prop := driftBacksUptoRow.holds Try.pinned (OpenSpec.upto driftBacksSpec)

/-- 'cressetlaw13.ShareSame', WHERE WHAT IT READS IS OF BULK AT MOST 1048576: true; the input reads as it did. -/
def shareSameUptoRow : OpenClaim := { program := "ytfbmgmdjaoackaa", sum := "68cc38c202979844582a82be6cd841d70bd315000d22d9709a8c899c4bba3121", func := "cresset/cressetlaw13.ShareSame", spec := "shareSame", inPlace := ["internal/bytealg.abigen_runtime_cmpstring"], unfollowed := true, recurses := true, plainKeys := false, apart := false, narrowed := true }
def ShareSameUptoSaid : Prop := shareSameUptoRow.holds Try.pinned (OpenSpec.upto shareSameSpec)

/-- 'cressetlaw13.ShareTrue', WHERE WHAT IT READS IS OF BULK AT MOST 1048576: true; the input reads as it did. -/
def shareTrueUptoRow : OpenClaim := { program := "ytfbmgmdjaoackaa", sum := "68cc38c202979844582a82be6cd841d70bd315000d22d9709a8c899c4bba3121", func := "cresset/cressetlaw13.ShareTrue", spec := "shareTrue", inPlace := ["internal/bytealg.abigen_runtime_cmpstring"], unfollowed := true, recurses := true, plainKeys := false, apart := false, narrowed := true }
def ShareTrueUptoSaid : Prop := shareTrueUptoRow.holds Try.pinned (OpenSpec.upto shareTrueSpec)

/-- 'cressetlaw03.GridReaches', WHERE WHAT IT READS IS OF BULK AT MOST 1048576: true; the input reads as it did. -/
def gridReachesUptoRow : OpenClaim := { program := "ytfbmgmdjaoackaa", sum := "68cc38c202979844582a82be6cd841d70bd315000d22d9709a8c899c4bba3121", func := "cresset/cressetlaw03.GridReaches", spec := "gridReaches", unfollowed := true, recurses := true, plainKeys := false, apart := false, narrowed := true }
def GridReachesUptoSaid : Prop := gridReachesUptoRow.holds Try.pinned (OpenSpec.upto gridReachesSpec)

/-- 'cressetlaw03.GridShapes', WHERE WHAT IT READS IS OF BULK AT MOST 1048576: true; the input reads as it did. -/
def gridShapesUptoRow : OpenClaim := { program := "ytfbmgmdjaoackaa", sum := "68cc38c202979844582a82be6cd841d70bd315000d22d9709a8c899c4bba3121", func := "cresset/cressetlaw03.GridShapes", spec := "gridShapes", unfollowed := true, recurses := true, plainKeys := false, apart := false, narrowed := true }
def GridShapesUptoSaid : Prop := gridShapesUptoRow.holds Try.pinned (OpenSpec.upto gridShapesSpec)

/-- 'cressetlaw13.ShareChecks', WHERE WHAT IT READS IS OF BULK AT MOST 1048576: true; the input reads as it did. -/
def shareChecksUptoRow : OpenClaim := { program := "ytfbmgmdjaoackaa", sum := "68cc38c202979844582a82be6cd841d70bd315000d22d9709a8c899c4bba3121", func := "cresset/cressetlaw13.ShareChecks", spec := "shareChecks", inPlace := ["internal/bytealg.abigen_runtime_cmpstring"], unfollowed := true, recurses := true, plainKeys := false, apart := false, narrowed := true }
def ShareChecksUptoSaid : Prop := shareChecksUptoRow.holds Try.pinned (OpenSpec.upto shareChecksSpec)

/-- 'cressetlaw13.ShareStays', WHERE WHAT IT READS IS OF BULK AT MOST 1048576: true; the input reads as it did. -/
def shareStaysUptoRow : OpenClaim := { program := "ytfbmgmdjaoackaa", sum := "68cc38c202979844582a82be6cd841d70bd315000d22d9709a8c899c4bba3121", func := "cresset/cressetlaw13.ShareStays", spec := "shareStays", inPlace := ["internal/bytealg.abigen_runtime_cmpstring"], unfollowed := true, recurses := true, plainKeys := false, apart := false, narrowed := true }
def ShareStaysUptoSaid : Prop := shareStaysUptoRow.holds Try.pinned (OpenSpec.upto shareStaysSpec)

/-- 'cressetlaw13.ShareNeeds', WHERE WHAT IT READS IS OF BULK AT MOST 1048576: true; the input reads as it did. -/
def shareNeedsUptoRow : OpenClaim := { program := "ytfbmgmdjaoackaa", sum := "68cc38c202979844582a82be6cd841d70bd315000d22d9709a8c899c4bba3121", func := "cresset/cressetlaw13.ShareNeeds", spec := "shareNeeds", inPlace := ["internal/bytealg.abigen_runtime_cmpstring"], unfollowed := true, recurses := true, plainKeys := false, apart := false, narrowed := true }
def ShareNeedsUptoSaid : Prop := shareNeedsUptoRow.holds Try.pinned (OpenSpec.upto shareNeedsSpec)

/-- 'cressetlaw03.GridConnected', WHERE WHAT IT READS IS OF BULK AT MOST 1048576: true; the input reads as it did. -/
def gridConnectedUptoRow : OpenClaim := { program := "ytfbmgmdjaoackaa", sum := "68cc38c202979844582a82be6cd841d70bd315000d22d9709a8c899c4bba3121", func := "cresset/cressetlaw03.GridConnected", spec := "gridConnected", unfollowed := true, recurses := true, plainKeys := false, apart := false, narrowed := true }
def GridConnectedUptoSaid : Prop := gridConnectedUptoRow.holds Try.pinned (OpenSpec.upto gridConnectedSpec)

/-- 'cressetlaw08.TracksCovers', WHERE WHAT IT READS IS OF BULK AT MOST 1048576: true; the input reads as it did. -/
def tracksCoversUptoRow : OpenClaim := { program := "ytfbmgmdjaoackaa", sum := "68cc38c202979844582a82be6cd841d70bd315000d22d9709a8c899c4bba3121", func := "cresset/cressetlaw08.TracksCovers", spec := "tracksCovers", unfollowed := true, recurses := true, plainKeys := false, apart := false, narrowed := true }
def TracksCoversUptoSaid : Prop := tracksCoversUptoRow.holds Try.pinned (OpenSpec.upto tracksCoversSpec)

/-- 'cressetlaw08.TracksReach', WHERE WHAT IT READS IS OF BULK AT MOST 1048576: true; the input reads as it did. -/
def tracksReachUptoRow : OpenClaim := { program := "ytfbmgmdjaoackaa", sum := "68cc38c202979844582a82be6cd841d70bd315000d22d9709a8c899c4bba3121", func := "cresset/cressetlaw08.TracksReach", spec := "tracksReach", unfollowed := true, recurses := true, plainKeys := false, apart := false, narrowed := true }
def TracksReachUptoSaid : Prop := tracksReachUptoRow.holds Try.pinned (OpenSpec.upto tracksReachSpec)

/-- 'cressetlaw03.GridBoolean', WHERE WHAT IT READS IS OF BULK AT MOST 1048576: true; the input reads as it did. -/
def gridBooleanUptoRow : OpenClaim := { program := "ytfbmgmdjaoackaa", sum := "68cc38c202979844582a82be6cd841d70bd315000d22d9709a8c899c4bba3121", func := "cresset/cressetlaw03.GridBoolean", spec := "gridBoolean", unfollowed := true, recurses := true, plainKeys := false, apart := false, narrowed := true }
def GridBooleanUptoSaid : Prop := gridBooleanUptoRow.holds Try.pinned (OpenSpec.upto gridBooleanSpec)

/-- 'cressetlaw04.DriftKeeps', WHERE WHAT IT READS IS OF BULK AT MOST 1048576: true; the input reads as it did. -/
def driftKeepsUptoRow : OpenClaim := { program := "ytfbmgmdjaoackaa", sum := "68cc38c202979844582a82be6cd841d70bd315000d22d9709a8c899c4bba3121", func := "cresset/cressetlaw04.DriftKeeps", spec := "driftKeeps", unfollowed := true, recurses := true, plainKeys := false, apart := false, narrowed := true }
def DriftKeepsUptoSaid : Prop := driftKeepsUptoRow.holds Try.pinned (OpenSpec.upto driftKeepsSpec)

/-- 'cressetlaw04.DriftMore', WHERE WHAT IT READS IS OF BULK AT MOST 1048576: true; the input reads as it did. -/
def driftMoreUptoRow : OpenClaim := { program := "ytfbmgmdjaoackaa", sum := "68cc38c202979844582a82be6cd841d70bd315000d22d9709a8c899c4bba3121", func := "cresset/cressetlaw04.DriftMore", spec := "driftMore", unfollowed := true, recurses := true, plainKeys := false, apart := false, narrowed := true }
def DriftMoreUptoSaid : Prop := driftMoreUptoRow.holds Try.pinned (OpenSpec.upto driftMoreSpec)

/-- 'cressetlaw03.GridNames', WHERE WHAT IT READS IS OF BULK AT MOST 1048576: true; the input reads as it did. -/
def gridNamesUptoRow : OpenClaim := { program := "ytfbmgmdjaoackaa", sum := "68cc38c202979844582a82be6cd841d70bd315000d22d9709a8c899c4bba3121", func := "cresset/cressetlaw03.GridNames", spec := "gridNames", inPlace := ["internal/abi.NoEscape", "internal/bytealg.MakeNoZero"], unfollowed := true, recurses := true, plainKeys := false, apart := false, narrowed := true }
def GridNamesUptoSaid : Prop := gridNamesUptoRow.holds Try.pinned (OpenSpec.upto gridNamesSpec)

/-- 'cressetlaw04.DriftParts', WHERE WHAT IT READS IS OF BULK AT MOST 1048576: true; the input reads as it did. -/
def driftPartsUptoRow : OpenClaim := { program := "ytfbmgmdjaoackaa", sum := "68cc38c202979844582a82be6cd841d70bd315000d22d9709a8c899c4bba3121", func := "cresset/cressetlaw04.DriftParts", spec := "driftParts", unfollowed := true, recurses := true, plainKeys := false, apart := false, narrowed := true }
def DriftPartsUptoSaid : Prop := driftPartsUptoRow.holds Try.pinned (OpenSpec.upto driftPartsSpec)

/-- 'cressetlaw04.DriftNames', WHERE WHAT IT READS IS OF BULK AT MOST 1048576: true; the input reads as it did. -/
def driftNamesUptoRow : OpenClaim := { program := "ytfbmgmdjaoackaa", sum := "68cc38c202979844582a82be6cd841d70bd315000d22d9709a8c899c4bba3121", func := "cresset/cressetlaw04.DriftNames", spec := "driftNames", unfollowed := true, recurses := true, plainKeys := false, apart := false, narrowed := true }
def DriftNamesUptoSaid : Prop := driftNamesUptoRow.holds Try.pinned (OpenSpec.upto driftNamesSpec)

end Rows
end Go.Proofs.Ytfbmgmdjaoackaa
