/-
  NARROWER THAN 'FOR EVERY INPUT', by the rows' own cells (each row's printed sentence says how): FnExactSliceSession: loops, laid · FnExactDrainSession: loops, laid · FnSolveCut: laid · FnSessionValid: laid · FnSessionIdle: laid · FnSliceSession: laid · FnSliceTwice: laid · FnSessionSame: laid · FnDrainSession: laid · FnExactSolveIndexed: loops, laid · FnSolveIndexed: laid · FnExactRoundRobin: loops, laid.
  DERIVED. THE GIVEN ROWS OF THIS SEAT. 12 by the template 'for every input the law returns true; each argument reads behind the call as it read before'; 0 by the template 'total and deterministic' (their statements: YthigelfjekcbmaaGreatDoorTotals.lean).
  GIVEN WITH THE SEED: the statements are not yours to turn. If you find one false, say at which input.
  Laid BY PROGRAM, IN A SANDBOX (cutbox-rows.mjs): the forced cells as the released guide's own fill.sh prints them over the translation 4ec310142b5c823a… (all of the seat's roots in one cut). By AI agents, Wed Nov 11 2026. No macro, syntax, notation, axiom, sorry.
-/
import Derived.Test.YthigelfjekcbmaaGreatDoorChecked
import GoSem.Claim
import GoSem.ClaimJoined
import GoSem.ClaimMapViews
import Derived.JoinedTies
import Derived.KernelRfl
namespace Go.Proofs.YthigelfjekcbmaaGreatDoor
/- THE CELL 'sum', in the pinned program and in every row, IS THE sha256 OF THE DUMP (.gsa) THAT YthigelfjekcbmaaGreatDoorProg.lean LOADS. Nothing in Lean hashes anything: it is a label: what it is worth is what the hold of that sum in a sandbox is worth. -/
noncomputable def Tryz.pinned : Pinned := { name := "ythigelfjekcbmaagreatdoor", sum := "4ec310142b5c823a8e8f5775008ecda71b08ea935e22ad9c9fd700143431e7f5", checked := Tryz.checked }
namespace Rows
def none {H : Type} : Left H := { results := [], args := [] }

/- WHAT THE LISTED PACKAGE-LEVEL VARIABLES READ AS WHEN THE CALL BEGINS. Each datum BY PROGRAM (the guide's laid-datum.mjs) off the statement by which the dump's own 'gosem.cut.vars' lays the variable. In a bare row this is a premise. The card (YthigelfjekcbmaaGreatDoorCards.lean) ties it to the program's text. -/
def laid_math_bits_deBruijn32tab {H : Type} : DataW H := .agg [.lit (.int .u8 0), .lit (.int .u8 1), .lit (.int .u8 28), .lit (.int .u8 2), .lit (.int .u8 29), .lit (.int .u8 14), .lit (.int .u8 24), .lit (.int .u8 3), .lit (.int .u8 30), .lit (.int .u8 22), .lit (.int .u8 20), .lit (.int .u8 15), .lit (.int .u8 25), .lit (.int .u8 17), .lit (.int .u8 4), .lit (.int .u8 8), .lit (.int .u8 31), .lit (.int .u8 27), .lit (.int .u8 13), .lit (.int .u8 23), .lit (.int .u8 21), .lit (.int .u8 19), .lit (.int .u8 16), .lit (.int .u8 7), .lit (.int .u8 26), .lit (.int .u8 12), .lit (.int .u8 18), .lit (.int .u8 6), .lit (.int .u8 11), .lit (.int .u8 5), .lit (.int .u8 10), .lit (.int .u8 9)]
def laid_math_bits_deBruijn64tab {H : Type} : DataW H := .agg [.lit (.int .u8 0), .lit (.int .u8 1), .lit (.int .u8 56), .lit (.int .u8 2), .lit (.int .u8 57), .lit (.int .u8 49), .lit (.int .u8 28), .lit (.int .u8 3), .lit (.int .u8 61), .lit (.int .u8 58), .lit (.int .u8 42), .lit (.int .u8 50), .lit (.int .u8 38), .lit (.int .u8 29), .lit (.int .u8 17), .lit (.int .u8 4), .lit (.int .u8 62), .lit (.int .u8 47), .lit (.int .u8 59), .lit (.int .u8 36), .lit (.int .u8 45), .lit (.int .u8 43), .lit (.int .u8 51), .lit (.int .u8 22), .lit (.int .u8 53), .lit (.int .u8 39), .lit (.int .u8 33), .lit (.int .u8 30), .lit (.int .u8 24), .lit (.int .u8 18), .lit (.int .u8 12), .lit (.int .u8 5), .lit (.int .u8 63), .lit (.int .u8 55), .lit (.int .u8 48), .lit (.int .u8 27), .lit (.int .u8 60), .lit (.int .u8 41), .lit (.int .u8 37), .lit (.int .u8 16), .lit (.int .u8 46), .lit (.int .u8 35), .lit (.int .u8 44), .lit (.int .u8 21), .lit (.int .u8 52), .lit (.int .u8 32), .lit (.int .u8 23), .lit (.int .u8 11), .lit (.int .u8 54), .lit (.int .u8 26), .lit (.int .u8 40), .lit (.int .u8 15), .lit (.int .u8 34), .lit (.int .u8 20), .lit (.int .u8 31), .lit (.int .u8 10), .lit (.int .u8 25), .lit (.int .u8 14), .lit (.int .u8 19), .lit (.int .u8 9), .lit (.int .u8 13), .lit (.int .u8 8), .lit (.int .u8 7), .lit (.int .u8 6)]
def laid_internal_strconv_uint64pow10 {H : Type} : DataW H := .agg [.lit (.int .u64 1), .lit (.int .u64 10), .lit (.int .u64 100), .lit (.int .u64 1000), .lit (.int .u64 10000), .lit (.int .u64 100000), .lit (.int .u64 1000000), .lit (.int .u64 10000000), .lit (.int .u64 100000000), .lit (.int .u64 1000000000), .lit (.int .u64 10000000000), .lit (.int .u64 100000000000), .lit (.int .u64 1000000000000), .lit (.int .u64 10000000000000), .lit (.int .u64 100000000000000), .lit (.int .u64 1000000000000000), .lit (.int .u64 10000000000000000), .lit (.int .u64 100000000000000000), .lit (.int .u64 1000000000000000000), .lit (.int .u64 10000000000000000000)]

/-- 'laws.FnExactSliceSession': WHATEVER THE INPUT: true; the input reads as it did. -/
def fnExactSliceSessionSpec : ChangeSpec := { name := "fnExactSliceSession", fn := fun _ => fun
  | [d1, d2] => { results := [.lit (.bool true)], args := [d1, d2] }
  | _ => none }
def fnExactSliceSessionRow : OpenClaim := { program := "ythigelfjekcbmaagreatdoor", sum := "4ec310142b5c823a8e8f5775008ecda71b08ea935e22ad9c9fd700143431e7f5", func := "loop.example/prologserver/laws.FnExactSliceSession", spec := "fnExactSliceSession", unfollowed := true, recurses := true, named := ["internal/strconv.uint64pow10", "math/bits.deBruijn32tab", "math/bits.deBruijn64tab"], loops := true, apart := false, laid := [("math/bits.deBruijn32tab", laid_math_bits_deBruijn32tab), ("math/bits.deBruijn64tab", laid_math_bits_deBruijn64tab), ("internal/strconv.uint64pow10", laid_internal_strconv_uint64pow10)] }
def FnExactSliceSessionSaid : Prop := fnExactSliceSessionRow.holds Tryz.pinned (OpenSpec.ofChange fnExactSliceSessionSpec)

/-- ITS FALSE NEIGHBOUR: 'it returns false'. Refute it at one input. -/
def fnExactSliceSessionWrong : ChangeSpec := { name := "fnExactSliceSession", fn := fun _ => fun
  | [d1, d2] => { results := [.lit (.bool false)], args := [d1, d2] }
  | _ => none }
def FnExactSliceSessionWrongFalsely : Prop := fnExactSliceSessionRow.holds Tryz.pinned (OpenSpec.ofChange fnExactSliceSessionWrong)

/-- 'laws.FnExactDrainSession': WHATEVER THE INPUT: true; the input reads as it did. -/
def fnExactDrainSessionSpec : ChangeSpec := { name := "fnExactDrainSession", fn := fun _ => fun
  | [d1, d2] => { results := [.lit (.bool true)], args := [d1, d2] }
  | _ => none }
def fnExactDrainSessionRow : OpenClaim := { program := "ythigelfjekcbmaagreatdoor", sum := "4ec310142b5c823a8e8f5775008ecda71b08ea935e22ad9c9fd700143431e7f5", func := "loop.example/prologserver/laws.FnExactDrainSession", spec := "fnExactDrainSession", unfollowed := true, recurses := true, named := ["internal/strconv.uint64pow10", "math/bits.deBruijn32tab", "math/bits.deBruijn64tab"], loops := true, apart := false, laid := [("math/bits.deBruijn32tab", laid_math_bits_deBruijn32tab), ("math/bits.deBruijn64tab", laid_math_bits_deBruijn64tab), ("internal/strconv.uint64pow10", laid_internal_strconv_uint64pow10)] }
def FnExactDrainSessionSaid : Prop := fnExactDrainSessionRow.holds Tryz.pinned (OpenSpec.ofChange fnExactDrainSessionSpec)

/-- ITS FALSE NEIGHBOUR: 'it returns false'. Refute it at one input. -/
def fnExactDrainSessionWrong : ChangeSpec := { name := "fnExactDrainSession", fn := fun _ => fun
  | [d1, d2] => { results := [.lit (.bool false)], args := [d1, d2] }
  | _ => none }
def FnExactDrainSessionWrongFalsely : Prop := fnExactDrainSessionRow.holds Tryz.pinned (OpenSpec.ofChange fnExactDrainSessionWrong)

/-- 'laws.FnSolveCut': WHATEVER THE INPUT: true; the input reads as it did. -/
def fnSolveCutSpec : ChangeSpec := { name := "fnSolveCut", fn := fun _ => fun
  | [d] => { results := [.lit (.bool true)], args := [d] }
  | _ => none }
def fnSolveCutRow : OpenClaim := { program := "ythigelfjekcbmaagreatdoor", sum := "4ec310142b5c823a8e8f5775008ecda71b08ea935e22ad9c9fd700143431e7f5", func := "loop.example/prologserver/laws.FnSolveCut", spec := "fnSolveCut", unfollowed := true, recurses := true, named := ["internal/strconv.uint64pow10", "math/bits.deBruijn32tab", "math/bits.deBruijn64tab"], apart := false, laid := [("math/bits.deBruijn32tab", laid_math_bits_deBruijn32tab), ("math/bits.deBruijn64tab", laid_math_bits_deBruijn64tab), ("internal/strconv.uint64pow10", laid_internal_strconv_uint64pow10)] }
def FnSolveCutSaid : Prop := fnSolveCutRow.holds Tryz.pinned (OpenSpec.ofChange fnSolveCutSpec)

/-- ITS FALSE NEIGHBOUR: 'it returns false'. Refute it at one input. -/
def fnSolveCutWrong : ChangeSpec := { name := "fnSolveCut", fn := fun _ => fun
  | [d] => { results := [.lit (.bool false)], args := [d] }
  | _ => none }
def FnSolveCutWrongFalsely : Prop := fnSolveCutRow.holds Tryz.pinned (OpenSpec.ofChange fnSolveCutWrong)

/-- 'laws.FnSessionValid': WHATEVER THE INPUT: true; the input reads as it did. -/
def fnSessionValidSpec : ChangeSpec := { name := "fnSessionValid", fn := fun _ => fun
  | [d] => { results := [.lit (.bool true)], args := [d] }
  | _ => none }
def fnSessionValidRow : OpenClaim := { program := "ythigelfjekcbmaagreatdoor", sum := "4ec310142b5c823a8e8f5775008ecda71b08ea935e22ad9c9fd700143431e7f5", func := "loop.example/prologserver/laws.FnSessionValid", spec := "fnSessionValid", unfollowed := true, recurses := true, named := ["internal/strconv.uint64pow10", "math/bits.deBruijn32tab", "math/bits.deBruijn64tab"], apart := false, laid := [("math/bits.deBruijn32tab", laid_math_bits_deBruijn32tab), ("math/bits.deBruijn64tab", laid_math_bits_deBruijn64tab), ("internal/strconv.uint64pow10", laid_internal_strconv_uint64pow10)] }
def FnSessionValidSaid : Prop := fnSessionValidRow.holds Tryz.pinned (OpenSpec.ofChange fnSessionValidSpec)

/-- ITS FALSE NEIGHBOUR: 'it returns false'. Refute it at one input. -/
def fnSessionValidWrong : ChangeSpec := { name := "fnSessionValid", fn := fun _ => fun
  | [d] => { results := [.lit (.bool false)], args := [d] }
  | _ => none }
def FnSessionValidWrongFalsely : Prop := fnSessionValidRow.holds Tryz.pinned (OpenSpec.ofChange fnSessionValidWrong)

/-- 'laws.FnSessionIdle': WHATEVER THE INPUT: true; the input reads as it did. -/
def fnSessionIdleSpec : ChangeSpec := { name := "fnSessionIdle", fn := fun _ => fun
  | [d] => { results := [.lit (.bool true)], args := [d] }
  | _ => none }
def fnSessionIdleRow : OpenClaim := { program := "ythigelfjekcbmaagreatdoor", sum := "4ec310142b5c823a8e8f5775008ecda71b08ea935e22ad9c9fd700143431e7f5", func := "loop.example/prologserver/laws.FnSessionIdle", spec := "fnSessionIdle", unfollowed := true, recurses := true, named := ["internal/strconv.uint64pow10", "math/bits.deBruijn32tab", "math/bits.deBruijn64tab"], apart := false, laid := [("math/bits.deBruijn32tab", laid_math_bits_deBruijn32tab), ("math/bits.deBruijn64tab", laid_math_bits_deBruijn64tab), ("internal/strconv.uint64pow10", laid_internal_strconv_uint64pow10)] }
def FnSessionIdleSaid : Prop := fnSessionIdleRow.holds Tryz.pinned (OpenSpec.ofChange fnSessionIdleSpec)

/-- ITS FALSE NEIGHBOUR: 'it returns false'. Refute it at one input. -/
def fnSessionIdleWrong : ChangeSpec := { name := "fnSessionIdle", fn := fun _ => fun
  | [d] => { results := [.lit (.bool false)], args := [d] }
  | _ => none }
def FnSessionIdleWrongFalsely : Prop := fnSessionIdleRow.holds Tryz.pinned (OpenSpec.ofChange fnSessionIdleWrong)

/-- 'laws.FnSliceSession': WHATEVER THE INPUT: true; the input reads as it did. -/
def fnSliceSessionSpec : ChangeSpec := { name := "fnSliceSession", fn := fun _ => fun
  | [d] => { results := [.lit (.bool true)], args := [d] }
  | _ => none }
def fnSliceSessionRow : OpenClaim := { program := "ythigelfjekcbmaagreatdoor", sum := "4ec310142b5c823a8e8f5775008ecda71b08ea935e22ad9c9fd700143431e7f5", func := "loop.example/prologserver/laws.FnSliceSession", spec := "fnSliceSession", unfollowed := true, recurses := true, named := ["internal/strconv.uint64pow10", "math/bits.deBruijn32tab", "math/bits.deBruijn64tab"], apart := false, laid := [("math/bits.deBruijn32tab", laid_math_bits_deBruijn32tab), ("math/bits.deBruijn64tab", laid_math_bits_deBruijn64tab), ("internal/strconv.uint64pow10", laid_internal_strconv_uint64pow10)] }
def FnSliceSessionSaid : Prop := fnSliceSessionRow.holds Tryz.pinned (OpenSpec.ofChange fnSliceSessionSpec)

/-- ITS FALSE NEIGHBOUR: 'it returns false'. Refute it at one input. -/
def fnSliceSessionWrong : ChangeSpec := { name := "fnSliceSession", fn := fun _ => fun
  | [d] => { results := [.lit (.bool false)], args := [d] }
  | _ => none }
def FnSliceSessionWrongFalsely : Prop := fnSliceSessionRow.holds Tryz.pinned (OpenSpec.ofChange fnSliceSessionWrong)

/-- 'laws.FnSliceTwice': WHATEVER THE INPUT: true; the input reads as it did. -/
def fnSliceTwiceSpec : ChangeSpec := { name := "fnSliceTwice", fn := fun _ => fun
  | [d1, d2] => { results := [.lit (.bool true)], args := [d1, d2] }
  | _ => none }
def fnSliceTwiceRow : OpenClaim := { program := "ythigelfjekcbmaagreatdoor", sum := "4ec310142b5c823a8e8f5775008ecda71b08ea935e22ad9c9fd700143431e7f5", func := "loop.example/prologserver/laws.FnSliceTwice", spec := "fnSliceTwice", unfollowed := true, recurses := true, named := ["internal/strconv.uint64pow10", "math/bits.deBruijn32tab", "math/bits.deBruijn64tab"], apart := false, laid := [("math/bits.deBruijn32tab", laid_math_bits_deBruijn32tab), ("math/bits.deBruijn64tab", laid_math_bits_deBruijn64tab), ("internal/strconv.uint64pow10", laid_internal_strconv_uint64pow10)] }
def FnSliceTwiceSaid : Prop := fnSliceTwiceRow.holds Tryz.pinned (OpenSpec.ofChange fnSliceTwiceSpec)

/-- ITS FALSE NEIGHBOUR: 'it returns false'. Refute it at one input. -/
def fnSliceTwiceWrong : ChangeSpec := { name := "fnSliceTwice", fn := fun _ => fun
  | [d1, d2] => { results := [.lit (.bool false)], args := [d1, d2] }
  | _ => none }
def FnSliceTwiceWrongFalsely : Prop := fnSliceTwiceRow.holds Tryz.pinned (OpenSpec.ofChange fnSliceTwiceWrong)

/-- 'laws.FnSessionSame': WHATEVER THE INPUT: true; the input reads as it did. -/
def fnSessionSameSpec : ChangeSpec := { name := "fnSessionSame", fn := fun _ => fun
  | [d] => { results := [.lit (.bool true)], args := [d] }
  | _ => none }
def fnSessionSameRow : OpenClaim := { program := "ythigelfjekcbmaagreatdoor", sum := "4ec310142b5c823a8e8f5775008ecda71b08ea935e22ad9c9fd700143431e7f5", func := "loop.example/prologserver/laws.FnSessionSame", spec := "fnSessionSame", unfollowed := true, recurses := true, named := ["internal/strconv.uint64pow10", "math/bits.deBruijn32tab", "math/bits.deBruijn64tab"], apart := false, laid := [("math/bits.deBruijn32tab", laid_math_bits_deBruijn32tab), ("math/bits.deBruijn64tab", laid_math_bits_deBruijn64tab), ("internal/strconv.uint64pow10", laid_internal_strconv_uint64pow10)] }
def FnSessionSameSaid : Prop := fnSessionSameRow.holds Tryz.pinned (OpenSpec.ofChange fnSessionSameSpec)

/-- ITS FALSE NEIGHBOUR: 'it returns false'. Refute it at one input. -/
def fnSessionSameWrong : ChangeSpec := { name := "fnSessionSame", fn := fun _ => fun
  | [d] => { results := [.lit (.bool false)], args := [d] }
  | _ => none }
def FnSessionSameWrongFalsely : Prop := fnSessionSameRow.holds Tryz.pinned (OpenSpec.ofChange fnSessionSameWrong)

/-- 'laws.FnDrainSession': WHATEVER THE INPUT: true; the input reads as it did. -/
def fnDrainSessionSpec : ChangeSpec := { name := "fnDrainSession", fn := fun _ => fun
  | [d1, d2] => { results := [.lit (.bool true)], args := [d1, d2] }
  | _ => none }
def fnDrainSessionRow : OpenClaim := { program := "ythigelfjekcbmaagreatdoor", sum := "4ec310142b5c823a8e8f5775008ecda71b08ea935e22ad9c9fd700143431e7f5", func := "loop.example/prologserver/laws.FnDrainSession", spec := "fnDrainSession", unfollowed := true, recurses := true, named := ["internal/strconv.uint64pow10", "math/bits.deBruijn32tab", "math/bits.deBruijn64tab"], apart := false, laid := [("math/bits.deBruijn32tab", laid_math_bits_deBruijn32tab), ("math/bits.deBruijn64tab", laid_math_bits_deBruijn64tab), ("internal/strconv.uint64pow10", laid_internal_strconv_uint64pow10)] }
def FnDrainSessionSaid : Prop := fnDrainSessionRow.holds Tryz.pinned (OpenSpec.ofChange fnDrainSessionSpec)

/-- ITS FALSE NEIGHBOUR: 'it returns false'. Refute it at one input. -/
def fnDrainSessionWrong : ChangeSpec := { name := "fnDrainSession", fn := fun _ => fun
  | [d1, d2] => { results := [.lit (.bool false)], args := [d1, d2] }
  | _ => none }
def FnDrainSessionWrongFalsely : Prop := fnDrainSessionRow.holds Tryz.pinned (OpenSpec.ofChange fnDrainSessionWrong)

/-- 'laws.FnExactSolveIndexed': WHATEVER THE INPUT: true; the input reads as it did. -/
def fnExactSolveIndexedSpec : ChangeSpec := { name := "fnExactSolveIndexed", fn := fun _ => fun
  | [d1, d2, d3, d4] => { results := [.lit (.bool true)], args := [d1, d2, d3, d4] }
  | _ => none }
def fnExactSolveIndexedRow : OpenClaim := { program := "ythigelfjekcbmaagreatdoor", sum := "4ec310142b5c823a8e8f5775008ecda71b08ea935e22ad9c9fd700143431e7f5", func := "loop.example/prologserver/laws.FnExactSolveIndexed", spec := "fnExactSolveIndexed", unfollowed := true, recurses := true, named := ["internal/strconv.uint64pow10", "math/bits.deBruijn32tab", "math/bits.deBruijn64tab"], loops := true, apart := false, laid := [("math/bits.deBruijn32tab", laid_math_bits_deBruijn32tab), ("math/bits.deBruijn64tab", laid_math_bits_deBruijn64tab), ("internal/strconv.uint64pow10", laid_internal_strconv_uint64pow10)] }
def FnExactSolveIndexedSaid : Prop := fnExactSolveIndexedRow.holds Tryz.pinned (OpenSpec.ofChange fnExactSolveIndexedSpec)

/-- ITS FALSE NEIGHBOUR: 'it returns false'. Refute it at one input. -/
def fnExactSolveIndexedWrong : ChangeSpec := { name := "fnExactSolveIndexed", fn := fun _ => fun
  | [d1, d2, d3, d4] => { results := [.lit (.bool false)], args := [d1, d2, d3, d4] }
  | _ => none }
def FnExactSolveIndexedWrongFalsely : Prop := fnExactSolveIndexedRow.holds Tryz.pinned (OpenSpec.ofChange fnExactSolveIndexedWrong)

/-- 'laws.FnSolveIndexed': WHATEVER THE INPUT: true; the input reads as it did. -/
def fnSolveIndexedSpec : ChangeSpec := { name := "fnSolveIndexed", fn := fun _ => fun
  | [d] => { results := [.lit (.bool true)], args := [d] }
  | _ => none }
def fnSolveIndexedRow : OpenClaim := { program := "ythigelfjekcbmaagreatdoor", sum := "4ec310142b5c823a8e8f5775008ecda71b08ea935e22ad9c9fd700143431e7f5", func := "loop.example/prologserver/laws.FnSolveIndexed", spec := "fnSolveIndexed", unfollowed := true, recurses := true, named := ["internal/strconv.uint64pow10", "math/bits.deBruijn32tab", "math/bits.deBruijn64tab"], apart := false, laid := [("math/bits.deBruijn32tab", laid_math_bits_deBruijn32tab), ("math/bits.deBruijn64tab", laid_math_bits_deBruijn64tab), ("internal/strconv.uint64pow10", laid_internal_strconv_uint64pow10)] }
def FnSolveIndexedSaid : Prop := fnSolveIndexedRow.holds Tryz.pinned (OpenSpec.ofChange fnSolveIndexedSpec)

/-- ITS FALSE NEIGHBOUR: 'it returns false'. Refute it at one input. -/
def fnSolveIndexedWrong : ChangeSpec := { name := "fnSolveIndexed", fn := fun _ => fun
  | [d] => { results := [.lit (.bool false)], args := [d] }
  | _ => none }
def FnSolveIndexedWrongFalsely : Prop := fnSolveIndexedRow.holds Tryz.pinned (OpenSpec.ofChange fnSolveIndexedWrong)

/-- 'laws.FnExactRoundRobin': WHATEVER THE INPUT: true; the input reads as it did. -/
def fnExactRoundRobinSpec : ChangeSpec := { name := "fnExactRoundRobin", fn := fun _ => fun
  | [d1, d2] => { results := [.lit (.bool true)], args := [d1, d2] }
  | _ => none }
def fnExactRoundRobinRow : OpenClaim := { program := "ythigelfjekcbmaagreatdoor", sum := "4ec310142b5c823a8e8f5775008ecda71b08ea935e22ad9c9fd700143431e7f5", func := "loop.example/prologserver/laws.FnExactRoundRobin", spec := "fnExactRoundRobin", unfollowed := true, recurses := true, named := ["internal/strconv.uint64pow10", "math/bits.deBruijn32tab", "math/bits.deBruijn64tab"], loops := true, apart := false, laid := [("math/bits.deBruijn32tab", laid_math_bits_deBruijn32tab), ("math/bits.deBruijn64tab", laid_math_bits_deBruijn64tab), ("internal/strconv.uint64pow10", laid_internal_strconv_uint64pow10)] }
def FnExactRoundRobinSaid : Prop := fnExactRoundRobinRow.holds Tryz.pinned (OpenSpec.ofChange fnExactRoundRobinSpec)

/-- ITS FALSE NEIGHBOUR: 'it returns false'. Refute it at one input. -/
def fnExactRoundRobinWrong : ChangeSpec := { name := "fnExactRoundRobin", fn := fun _ => fun
  | [d1, d2] => { results := [.lit (.bool false)], args := [d1, d2] }
  | _ => none }
def FnExactRoundRobinWrongFalsely : Prop := fnExactRoundRobinRow.holds Tryz.pinned (OpenSpec.ofChange fnExactRoundRobinWrong)

/- THE SECOND FORM. 'bulk': how many values and letters a reading holds, each counted each time it is reached (what is shared counts as often as it is met; a slice's spare places count too). A statement '..UptoSaid' is the law's where the arguments, and the package variables that the reading takes, are together of bulk at most 1048576: NARROWER than '..Said'. Prove '..Said' where nothing that the law and all that it calls make is longer than what came in: it says more and counts as full. Else prove '..UptoSaid'. A law counts once. -/
mutual
def uptoBulk {H : Type} : DataW H → Nat
  | .lit (.string bytes) => bytes.length + 1
  | .lit _ => 1
  | .nil => 1
  | .ptr d => uptoBulk d + 1
  | .slice elems spare => uptoBulkAll elems + uptoBulkAll spare + 1
  | .agg parts => uptoBulkAll parts + 1
  | .iface _ d => uptoBulk d + 1
  | .map entries => uptoBulkEntries entries + 1
  | .held _ => 1
def uptoBulkAll {H : Type} : List (DataW H) → Nat
  | [] => 0
  | d :: r => uptoBulk d + uptoBulkAll r
def uptoBulkEntries {H : Type} : List (Lit × DataW H) → Nat
  | [] => 0
  | x :: r => uptoBulkEntry x + uptoBulkEntries r
def uptoBulkEntry {H : Type} : Lit × DataW H → Nat
  | (.string bytes, d) => bytes.length + uptoBulk d + 1
  | (_, d) => uptoBulk d + 1
 end
def uptoSmall : (H : Type) → List (DataW H) → Bool := fun _ ds => decide (uptoBulkAll ds ≤ 1048576)
def OpenSpec.upto (s : _root_.Go.ChangeSpec) : _root_.Go.OpenSpec := { _root_.Go.OpenSpec.ofChange s with cond := some uptoSmall }

/-- 'laws.FnExactSliceSession', WHERE WHAT IT READS IS OF BULK AT MOST 1048576: true; the input reads as it did. -/
def fnExactSliceSessionUptoRow : OpenClaim := { program := "ythigelfjekcbmaagreatdoor", sum := "4ec310142b5c823a8e8f5775008ecda71b08ea935e22ad9c9fd700143431e7f5", func := "loop.example/prologserver/laws.FnExactSliceSession", spec := "fnExactSliceSession", unfollowed := true, recurses := true, named := ["internal/strconv.uint64pow10", "math/bits.deBruijn32tab", "math/bits.deBruijn64tab"], loops := true, apart := false, laid := [("math/bits.deBruijn32tab", laid_math_bits_deBruijn32tab), ("math/bits.deBruijn64tab", laid_math_bits_deBruijn64tab), ("internal/strconv.uint64pow10", laid_internal_strconv_uint64pow10)], narrowed := true }
def FnExactSliceSessionUptoSaid : Prop := fnExactSliceSessionUptoRow.holds Tryz.pinned (OpenSpec.upto fnExactSliceSessionSpec)

/-- 'laws.FnExactDrainSession', WHERE WHAT IT READS IS OF BULK AT MOST 1048576: true; the input reads as it did. -/
def fnExactDrainSessionUptoRow : OpenClaim := { program := "ythigelfjekcbmaagreatdoor", sum := "4ec310142b5c823a8e8f5775008ecda71b08ea935e22ad9c9fd700143431e7f5", func := "loop.example/prologserver/laws.FnExactDrainSession", spec := "fnExactDrainSession", unfollowed := true, recurses := true, named := ["internal/strconv.uint64pow10", "math/bits.deBruijn32tab", "math/bits.deBruijn64tab"], loops := true, apart := false, laid := [("math/bits.deBruijn32tab", laid_math_bits_deBruijn32tab), ("math/bits.deBruijn64tab", laid_math_bits_deBruijn64tab), ("internal/strconv.uint64pow10", laid_internal_strconv_uint64pow10)], narrowed := true }
def FnExactDrainSessionUptoSaid : Prop := fnExactDrainSessionUptoRow.holds Tryz.pinned (OpenSpec.upto fnExactDrainSessionSpec)

/-- 'laws.FnSolveCut', WHERE WHAT IT READS IS OF BULK AT MOST 1048576: true; the input reads as it did. -/
def fnSolveCutUptoRow : OpenClaim := { program := "ythigelfjekcbmaagreatdoor", sum := "4ec310142b5c823a8e8f5775008ecda71b08ea935e22ad9c9fd700143431e7f5", func := "loop.example/prologserver/laws.FnSolveCut", spec := "fnSolveCut", unfollowed := true, recurses := true, named := ["internal/strconv.uint64pow10", "math/bits.deBruijn32tab", "math/bits.deBruijn64tab"], apart := false, laid := [("math/bits.deBruijn32tab", laid_math_bits_deBruijn32tab), ("math/bits.deBruijn64tab", laid_math_bits_deBruijn64tab), ("internal/strconv.uint64pow10", laid_internal_strconv_uint64pow10)], narrowed := true }
def FnSolveCutUptoSaid : Prop := fnSolveCutUptoRow.holds Tryz.pinned (OpenSpec.upto fnSolveCutSpec)

/-- 'laws.FnSessionValid', WHERE WHAT IT READS IS OF BULK AT MOST 1048576: true; the input reads as it did. -/
def fnSessionValidUptoRow : OpenClaim := { program := "ythigelfjekcbmaagreatdoor", sum := "4ec310142b5c823a8e8f5775008ecda71b08ea935e22ad9c9fd700143431e7f5", func := "loop.example/prologserver/laws.FnSessionValid", spec := "fnSessionValid", unfollowed := true, recurses := true, named := ["internal/strconv.uint64pow10", "math/bits.deBruijn32tab", "math/bits.deBruijn64tab"], apart := false, laid := [("math/bits.deBruijn32tab", laid_math_bits_deBruijn32tab), ("math/bits.deBruijn64tab", laid_math_bits_deBruijn64tab), ("internal/strconv.uint64pow10", laid_internal_strconv_uint64pow10)], narrowed := true }
def FnSessionValidUptoSaid : Prop := fnSessionValidUptoRow.holds Tryz.pinned (OpenSpec.upto fnSessionValidSpec)

/-- 'laws.FnSessionIdle', WHERE WHAT IT READS IS OF BULK AT MOST 1048576: true; the input reads as it did. -/
def fnSessionIdleUptoRow : OpenClaim := { program := "ythigelfjekcbmaagreatdoor", sum := "4ec310142b5c823a8e8f5775008ecda71b08ea935e22ad9c9fd700143431e7f5", func := "loop.example/prologserver/laws.FnSessionIdle", spec := "fnSessionIdle", unfollowed := true, recurses := true, named := ["internal/strconv.uint64pow10", "math/bits.deBruijn32tab", "math/bits.deBruijn64tab"], apart := false, laid := [("math/bits.deBruijn32tab", laid_math_bits_deBruijn32tab), ("math/bits.deBruijn64tab", laid_math_bits_deBruijn64tab), ("internal/strconv.uint64pow10", laid_internal_strconv_uint64pow10)], narrowed := true }
def FnSessionIdleUptoSaid : Prop := fnSessionIdleUptoRow.holds Tryz.pinned (OpenSpec.upto fnSessionIdleSpec)

/-- 'laws.FnSliceSession', WHERE WHAT IT READS IS OF BULK AT MOST 1048576: true; the input reads as it did. -/
def fnSliceSessionUptoRow : OpenClaim := { program := "ythigelfjekcbmaagreatdoor", sum := "4ec310142b5c823a8e8f5775008ecda71b08ea935e22ad9c9fd700143431e7f5", func := "loop.example/prologserver/laws.FnSliceSession", spec := "fnSliceSession", unfollowed := true, recurses := true, named := ["internal/strconv.uint64pow10", "math/bits.deBruijn32tab", "math/bits.deBruijn64tab"], apart := false, laid := [("math/bits.deBruijn32tab", laid_math_bits_deBruijn32tab), ("math/bits.deBruijn64tab", laid_math_bits_deBruijn64tab), ("internal/strconv.uint64pow10", laid_internal_strconv_uint64pow10)], narrowed := true }
def FnSliceSessionUptoSaid : Prop := fnSliceSessionUptoRow.holds Tryz.pinned (OpenSpec.upto fnSliceSessionSpec)

/-- 'laws.FnSliceTwice', WHERE WHAT IT READS IS OF BULK AT MOST 1048576: true; the input reads as it did. -/
def fnSliceTwiceUptoRow : OpenClaim := { program := "ythigelfjekcbmaagreatdoor", sum := "4ec310142b5c823a8e8f5775008ecda71b08ea935e22ad9c9fd700143431e7f5", func := "loop.example/prologserver/laws.FnSliceTwice", spec := "fnSliceTwice", unfollowed := true, recurses := true, named := ["internal/strconv.uint64pow10", "math/bits.deBruijn32tab", "math/bits.deBruijn64tab"], apart := false, laid := [("math/bits.deBruijn32tab", laid_math_bits_deBruijn32tab), ("math/bits.deBruijn64tab", laid_math_bits_deBruijn64tab), ("internal/strconv.uint64pow10", laid_internal_strconv_uint64pow10)], narrowed := true }
def FnSliceTwiceUptoSaid : Prop := fnSliceTwiceUptoRow.holds Tryz.pinned (OpenSpec.upto fnSliceTwiceSpec)

/-- 'laws.FnSessionSame', WHERE WHAT IT READS IS OF BULK AT MOST 1048576: true; the input reads as it did. -/
def fnSessionSameUptoRow : OpenClaim := { program := "ythigelfjekcbmaagreatdoor", sum := "4ec310142b5c823a8e8f5775008ecda71b08ea935e22ad9c9fd700143431e7f5", func := "loop.example/prologserver/laws.FnSessionSame", spec := "fnSessionSame", unfollowed := true, recurses := true, named := ["internal/strconv.uint64pow10", "math/bits.deBruijn32tab", "math/bits.deBruijn64tab"], apart := false, laid := [("math/bits.deBruijn32tab", laid_math_bits_deBruijn32tab), ("math/bits.deBruijn64tab", laid_math_bits_deBruijn64tab), ("internal/strconv.uint64pow10", laid_internal_strconv_uint64pow10)], narrowed := true }
def FnSessionSameUptoSaid : Prop := fnSessionSameUptoRow.holds Tryz.pinned (OpenSpec.upto fnSessionSameSpec)

/-- 'laws.FnDrainSession', WHERE WHAT IT READS IS OF BULK AT MOST 1048576: true; the input reads as it did. -/
def fnDrainSessionUptoRow : OpenClaim := { program := "ythigelfjekcbmaagreatdoor", sum := "4ec310142b5c823a8e8f5775008ecda71b08ea935e22ad9c9fd700143431e7f5", func := "loop.example/prologserver/laws.FnDrainSession", spec := "fnDrainSession", unfollowed := true, recurses := true, named := ["internal/strconv.uint64pow10", "math/bits.deBruijn32tab", "math/bits.deBruijn64tab"], apart := false, laid := [("math/bits.deBruijn32tab", laid_math_bits_deBruijn32tab), ("math/bits.deBruijn64tab", laid_math_bits_deBruijn64tab), ("internal/strconv.uint64pow10", laid_internal_strconv_uint64pow10)], narrowed := true }
def FnDrainSessionUptoSaid : Prop := fnDrainSessionUptoRow.holds Tryz.pinned (OpenSpec.upto fnDrainSessionSpec)

/-- 'laws.FnExactSolveIndexed', WHERE WHAT IT READS IS OF BULK AT MOST 1048576: true; the input reads as it did. -/
def fnExactSolveIndexedUptoRow : OpenClaim := { program := "ythigelfjekcbmaagreatdoor", sum := "4ec310142b5c823a8e8f5775008ecda71b08ea935e22ad9c9fd700143431e7f5", func := "loop.example/prologserver/laws.FnExactSolveIndexed", spec := "fnExactSolveIndexed", unfollowed := true, recurses := true, named := ["internal/strconv.uint64pow10", "math/bits.deBruijn32tab", "math/bits.deBruijn64tab"], loops := true, apart := false, laid := [("math/bits.deBruijn32tab", laid_math_bits_deBruijn32tab), ("math/bits.deBruijn64tab", laid_math_bits_deBruijn64tab), ("internal/strconv.uint64pow10", laid_internal_strconv_uint64pow10)], narrowed := true }
def FnExactSolveIndexedUptoSaid : Prop := fnExactSolveIndexedUptoRow.holds Tryz.pinned (OpenSpec.upto fnExactSolveIndexedSpec)

/-- 'laws.FnSolveIndexed', WHERE WHAT IT READS IS OF BULK AT MOST 1048576: true; the input reads as it did. -/
def fnSolveIndexedUptoRow : OpenClaim := { program := "ythigelfjekcbmaagreatdoor", sum := "4ec310142b5c823a8e8f5775008ecda71b08ea935e22ad9c9fd700143431e7f5", func := "loop.example/prologserver/laws.FnSolveIndexed", spec := "fnSolveIndexed", unfollowed := true, recurses := true, named := ["internal/strconv.uint64pow10", "math/bits.deBruijn32tab", "math/bits.deBruijn64tab"], apart := false, laid := [("math/bits.deBruijn32tab", laid_math_bits_deBruijn32tab), ("math/bits.deBruijn64tab", laid_math_bits_deBruijn64tab), ("internal/strconv.uint64pow10", laid_internal_strconv_uint64pow10)], narrowed := true }
def FnSolveIndexedUptoSaid : Prop := fnSolveIndexedUptoRow.holds Tryz.pinned (OpenSpec.upto fnSolveIndexedSpec)

/-- 'laws.FnExactRoundRobin', WHERE WHAT IT READS IS OF BULK AT MOST 1048576: true; the input reads as it did. -/
def fnExactRoundRobinUptoRow : OpenClaim := { program := "ythigelfjekcbmaagreatdoor", sum := "4ec310142b5c823a8e8f5775008ecda71b08ea935e22ad9c9fd700143431e7f5", func := "loop.example/prologserver/laws.FnExactRoundRobin", spec := "fnExactRoundRobin", unfollowed := true, recurses := true, named := ["internal/strconv.uint64pow10", "math/bits.deBruijn32tab", "math/bits.deBruijn64tab"], loops := true, apart := false, laid := [("math/bits.deBruijn32tab", laid_math_bits_deBruijn32tab), ("math/bits.deBruijn64tab", laid_math_bits_deBruijn64tab), ("internal/strconv.uint64pow10", laid_internal_strconv_uint64pow10)], narrowed := true }
def FnExactRoundRobinUptoSaid : Prop := fnExactRoundRobinUptoRow.holds Tryz.pinned (OpenSpec.upto fnExactRoundRobinSpec)

end Rows
end Go.Proofs.YthigelfjekcbmaaGreatDoor
