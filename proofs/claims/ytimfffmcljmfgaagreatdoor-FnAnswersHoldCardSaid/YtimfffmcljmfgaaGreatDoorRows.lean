/-
  NARROWER THAN 'FOR EVERY INPUT', by the rows' own cells (each row's printed sentence says how): FnExactSolveIndexed: loops, laid · FnSolveIndexed: laid · FnExactRoundRobin: loops, laid · FnRoundRobin: laid · FnTurnSize: laid · FnTurnOrder: laid · FnKeyInstance: laid · FnAnswerGoals: laid · FnSolveFacts: laid · FnAnswersHold: laid · FnAnswerValid: laid · FnExactRunCode: loops, laid.
  DERIVED. THE GIVEN ROWS OF THIS SEAT. 12 by the template 'for every input the law returns true; each argument reads behind the call as it read before'; 0 by the template 'total and deterministic' (their statements: YtimfffmcljmfgaaGreatDoorTotals.lean).
  GIVEN WITH THE SEED: the statements are not yours to turn. If you find one false, say at which input.
  Laid BY PROGRAM, IN A SANDBOX (cutbox-rows.mjs): the forced cells as the released guide's own fill.sh prints them over the translation e192c3b1bc094376… (all of the seat's roots in one cut). By AI agents, Wed Nov 11 2026. No macro, syntax, notation, axiom, sorry.
-/
import Derived.Test.YtimfffmcljmfgaaGreatDoorChecked
import GoSem.Claim
import GoSem.ClaimJoined
import GoSem.ClaimMapViews
import Derived.JoinedTies
import Derived.KernelRfl
namespace Go.Proofs.YtimfffmcljmfgaaGreatDoor
/- THE CELL 'sum', in the pinned program and in every row, IS THE sha256 OF THE DUMP (.gsa) THAT YtimfffmcljmfgaaGreatDoorProg.lean LOADS. Nothing in Lean hashes anything: it is a label: what it is worth is what the hold of that sum in a sandbox is worth. -/
noncomputable def Tryz.pinned : Pinned := { name := "ytimfffmcljmfgaagreatdoor", sum := "e192c3b1bc094376e05fd856af490e5fea597f0668ac6096514d1fe137189033", checked := Tryz.checked }
namespace Rows
def none {H : Type} : Left H := { results := [], args := [] }

/- WHAT THE LISTED PACKAGE-LEVEL VARIABLES READ AS WHEN THE CALL BEGINS. Each datum BY PROGRAM (the guide's laid-datum.mjs) off the statement by which the dump's own 'gosem.cut.vars' lays the variable. In a bare row this is a premise. The card (YtimfffmcljmfgaaGreatDoorCards.lean) ties it to the program's text. -/
def laid_math_bits_deBruijn32tab {H : Type} : DataW H := .agg [.lit (.int .u8 0), .lit (.int .u8 1), .lit (.int .u8 28), .lit (.int .u8 2), .lit (.int .u8 29), .lit (.int .u8 14), .lit (.int .u8 24), .lit (.int .u8 3), .lit (.int .u8 30), .lit (.int .u8 22), .lit (.int .u8 20), .lit (.int .u8 15), .lit (.int .u8 25), .lit (.int .u8 17), .lit (.int .u8 4), .lit (.int .u8 8), .lit (.int .u8 31), .lit (.int .u8 27), .lit (.int .u8 13), .lit (.int .u8 23), .lit (.int .u8 21), .lit (.int .u8 19), .lit (.int .u8 16), .lit (.int .u8 7), .lit (.int .u8 26), .lit (.int .u8 12), .lit (.int .u8 18), .lit (.int .u8 6), .lit (.int .u8 11), .lit (.int .u8 5), .lit (.int .u8 10), .lit (.int .u8 9)]
def laid_math_bits_deBruijn64tab {H : Type} : DataW H := .agg [.lit (.int .u8 0), .lit (.int .u8 1), .lit (.int .u8 56), .lit (.int .u8 2), .lit (.int .u8 57), .lit (.int .u8 49), .lit (.int .u8 28), .lit (.int .u8 3), .lit (.int .u8 61), .lit (.int .u8 58), .lit (.int .u8 42), .lit (.int .u8 50), .lit (.int .u8 38), .lit (.int .u8 29), .lit (.int .u8 17), .lit (.int .u8 4), .lit (.int .u8 62), .lit (.int .u8 47), .lit (.int .u8 59), .lit (.int .u8 36), .lit (.int .u8 45), .lit (.int .u8 43), .lit (.int .u8 51), .lit (.int .u8 22), .lit (.int .u8 53), .lit (.int .u8 39), .lit (.int .u8 33), .lit (.int .u8 30), .lit (.int .u8 24), .lit (.int .u8 18), .lit (.int .u8 12), .lit (.int .u8 5), .lit (.int .u8 63), .lit (.int .u8 55), .lit (.int .u8 48), .lit (.int .u8 27), .lit (.int .u8 60), .lit (.int .u8 41), .lit (.int .u8 37), .lit (.int .u8 16), .lit (.int .u8 46), .lit (.int .u8 35), .lit (.int .u8 44), .lit (.int .u8 21), .lit (.int .u8 52), .lit (.int .u8 32), .lit (.int .u8 23), .lit (.int .u8 11), .lit (.int .u8 54), .lit (.int .u8 26), .lit (.int .u8 40), .lit (.int .u8 15), .lit (.int .u8 34), .lit (.int .u8 20), .lit (.int .u8 31), .lit (.int .u8 10), .lit (.int .u8 25), .lit (.int .u8 14), .lit (.int .u8 19), .lit (.int .u8 9), .lit (.int .u8 13), .lit (.int .u8 8), .lit (.int .u8 7), .lit (.int .u8 6)]
def laid_internal_strconv_uint64pow10 {H : Type} : DataW H := .agg [.lit (.int .u64 1), .lit (.int .u64 10), .lit (.int .u64 100), .lit (.int .u64 1000), .lit (.int .u64 10000), .lit (.int .u64 100000), .lit (.int .u64 1000000), .lit (.int .u64 10000000), .lit (.int .u64 100000000), .lit (.int .u64 1000000000), .lit (.int .u64 10000000000), .lit (.int .u64 100000000000), .lit (.int .u64 1000000000000), .lit (.int .u64 10000000000000), .lit (.int .u64 100000000000000), .lit (.int .u64 1000000000000000), .lit (.int .u64 10000000000000000), .lit (.int .u64 100000000000000000), .lit (.int .u64 1000000000000000000), .lit (.int .u64 10000000000000000000)]

/-- 'laws.FnExactSolveIndexed': WHATEVER THE INPUT: true; the input reads as it did. -/
def fnExactSolveIndexedSpec : ChangeSpec := { name := "fnExactSolveIndexed", fn := fun _ => fun
  | [d1, d2, d3, d4] => { results := [.lit (.bool true)], args := [d1, d2, d3, d4] }
  | _ => none }
def fnExactSolveIndexedRow : OpenClaim := { program := "ytimfffmcljmfgaagreatdoor", sum := "e192c3b1bc094376e05fd856af490e5fea597f0668ac6096514d1fe137189033", func := "loop.example/prologserver/laws.FnExactSolveIndexed", spec := "fnExactSolveIndexed", unfollowed := true, recurses := true, named := ["internal/strconv.uint64pow10", "math/bits.deBruijn32tab", "math/bits.deBruijn64tab"], loops := true, apart := false, laid := [("math/bits.deBruijn32tab", laid_math_bits_deBruijn32tab), ("math/bits.deBruijn64tab", laid_math_bits_deBruijn64tab), ("internal/strconv.uint64pow10", laid_internal_strconv_uint64pow10)] }
def FnExactSolveIndexedSaid : Prop := fnExactSolveIndexedRow.holds Tryz.pinned (OpenSpec.ofChange fnExactSolveIndexedSpec)

/-- ITS FALSE NEIGHBOUR: 'it returns false'. Refute it at one input. -/
def fnExactSolveIndexedWrong : ChangeSpec := { name := "fnExactSolveIndexed", fn := fun _ => fun
  | [d1, d2, d3, d4] => { results := [.lit (.bool false)], args := [d1, d2, d3, d4] }
  | _ => none }
def FnExactSolveIndexedWrongFalsely : Prop := fnExactSolveIndexedRow.holds Tryz.pinned (OpenSpec.ofChange fnExactSolveIndexedWrong)

/-- 'laws.FnSolveIndexed': WHATEVER THE INPUT: true; the input reads as it did. -/
def fnSolveIndexedSpec : ChangeSpec := { name := "fnSolveIndexed", fn := fun _ => fun
  | [d] => { results := [.lit (.bool true)], args := [d] }
  | _ => none }
def fnSolveIndexedRow : OpenClaim := { program := "ytimfffmcljmfgaagreatdoor", sum := "e192c3b1bc094376e05fd856af490e5fea597f0668ac6096514d1fe137189033", func := "loop.example/prologserver/laws.FnSolveIndexed", spec := "fnSolveIndexed", unfollowed := true, recurses := true, named := ["internal/strconv.uint64pow10", "math/bits.deBruijn32tab", "math/bits.deBruijn64tab"], apart := false, laid := [("math/bits.deBruijn32tab", laid_math_bits_deBruijn32tab), ("math/bits.deBruijn64tab", laid_math_bits_deBruijn64tab), ("internal/strconv.uint64pow10", laid_internal_strconv_uint64pow10)] }
def FnSolveIndexedSaid : Prop := fnSolveIndexedRow.holds Tryz.pinned (OpenSpec.ofChange fnSolveIndexedSpec)

/-- ITS FALSE NEIGHBOUR: 'it returns false'. Refute it at one input. -/
def fnSolveIndexedWrong : ChangeSpec := { name := "fnSolveIndexed", fn := fun _ => fun
  | [d] => { results := [.lit (.bool false)], args := [d] }
  | _ => none }
def FnSolveIndexedWrongFalsely : Prop := fnSolveIndexedRow.holds Tryz.pinned (OpenSpec.ofChange fnSolveIndexedWrong)

/-- 'laws.FnExactRoundRobin': WHATEVER THE INPUT: true; the input reads as it did. -/
def fnExactRoundRobinSpec : ChangeSpec := { name := "fnExactRoundRobin", fn := fun _ => fun
  | [d1, d2] => { results := [.lit (.bool true)], args := [d1, d2] }
  | _ => none }
def fnExactRoundRobinRow : OpenClaim := { program := "ytimfffmcljmfgaagreatdoor", sum := "e192c3b1bc094376e05fd856af490e5fea597f0668ac6096514d1fe137189033", func := "loop.example/prologserver/laws.FnExactRoundRobin", spec := "fnExactRoundRobin", unfollowed := true, recurses := true, named := ["internal/strconv.uint64pow10", "math/bits.deBruijn32tab", "math/bits.deBruijn64tab"], loops := true, apart := false, laid := [("math/bits.deBruijn32tab", laid_math_bits_deBruijn32tab), ("math/bits.deBruijn64tab", laid_math_bits_deBruijn64tab), ("internal/strconv.uint64pow10", laid_internal_strconv_uint64pow10)] }
def FnExactRoundRobinSaid : Prop := fnExactRoundRobinRow.holds Tryz.pinned (OpenSpec.ofChange fnExactRoundRobinSpec)

/-- ITS FALSE NEIGHBOUR: 'it returns false'. Refute it at one input. -/
def fnExactRoundRobinWrong : ChangeSpec := { name := "fnExactRoundRobin", fn := fun _ => fun
  | [d1, d2] => { results := [.lit (.bool false)], args := [d1, d2] }
  | _ => none }
def FnExactRoundRobinWrongFalsely : Prop := fnExactRoundRobinRow.holds Tryz.pinned (OpenSpec.ofChange fnExactRoundRobinWrong)

/-- 'laws.FnRoundRobin': WHATEVER THE INPUT: true; the input reads as it did. -/
def fnRoundRobinSpec : ChangeSpec := { name := "fnRoundRobin", fn := fun _ => fun
  | [d] => { results := [.lit (.bool true)], args := [d] }
  | _ => none }
def fnRoundRobinRow : OpenClaim := { program := "ytimfffmcljmfgaagreatdoor", sum := "e192c3b1bc094376e05fd856af490e5fea597f0668ac6096514d1fe137189033", func := "loop.example/prologserver/laws.FnRoundRobin", spec := "fnRoundRobin", unfollowed := true, recurses := true, named := ["internal/strconv.uint64pow10", "math/bits.deBruijn32tab", "math/bits.deBruijn64tab"], apart := false, laid := [("math/bits.deBruijn32tab", laid_math_bits_deBruijn32tab), ("math/bits.deBruijn64tab", laid_math_bits_deBruijn64tab), ("internal/strconv.uint64pow10", laid_internal_strconv_uint64pow10)] }
def FnRoundRobinSaid : Prop := fnRoundRobinRow.holds Tryz.pinned (OpenSpec.ofChange fnRoundRobinSpec)

/-- ITS FALSE NEIGHBOUR: 'it returns false'. Refute it at one input. -/
def fnRoundRobinWrong : ChangeSpec := { name := "fnRoundRobin", fn := fun _ => fun
  | [d] => { results := [.lit (.bool false)], args := [d] }
  | _ => none }
def FnRoundRobinWrongFalsely : Prop := fnRoundRobinRow.holds Tryz.pinned (OpenSpec.ofChange fnRoundRobinWrong)

/-- 'laws.FnTurnSize': WHATEVER THE INPUT: true; the input reads as it did. -/
def fnTurnSizeSpec : ChangeSpec := { name := "fnTurnSize", fn := fun _ => fun
  | [d1, d2] => { results := [.lit (.bool true)], args := [d1, d2] }
  | _ => none }
def fnTurnSizeRow : OpenClaim := { program := "ytimfffmcljmfgaagreatdoor", sum := "e192c3b1bc094376e05fd856af490e5fea597f0668ac6096514d1fe137189033", func := "loop.example/prologserver/laws.FnTurnSize", spec := "fnTurnSize", unfollowed := true, recurses := true, named := ["internal/strconv.uint64pow10", "math/bits.deBruijn32tab", "math/bits.deBruijn64tab"], apart := false, laid := [("math/bits.deBruijn32tab", laid_math_bits_deBruijn32tab), ("math/bits.deBruijn64tab", laid_math_bits_deBruijn64tab), ("internal/strconv.uint64pow10", laid_internal_strconv_uint64pow10)] }
def FnTurnSizeSaid : Prop := fnTurnSizeRow.holds Tryz.pinned (OpenSpec.ofChange fnTurnSizeSpec)

/-- ITS FALSE NEIGHBOUR: 'it returns false'. Refute it at one input. -/
def fnTurnSizeWrong : ChangeSpec := { name := "fnTurnSize", fn := fun _ => fun
  | [d1, d2] => { results := [.lit (.bool false)], args := [d1, d2] }
  | _ => none }
def FnTurnSizeWrongFalsely : Prop := fnTurnSizeRow.holds Tryz.pinned (OpenSpec.ofChange fnTurnSizeWrong)

/-- 'laws.FnTurnOrder': WHATEVER THE INPUT: true; the input reads as it did. -/
def fnTurnOrderSpec : ChangeSpec := { name := "fnTurnOrder", fn := fun _ => fun
  | [d] => { results := [.lit (.bool true)], args := [d] }
  | _ => none }
def fnTurnOrderRow : OpenClaim := { program := "ytimfffmcljmfgaagreatdoor", sum := "e192c3b1bc094376e05fd856af490e5fea597f0668ac6096514d1fe137189033", func := "loop.example/prologserver/laws.FnTurnOrder", spec := "fnTurnOrder", inPlace := ["internal/abi.NoEscape", "internal/bytealg.MakeNoZero"], unfollowed := true, recurses := true, named := ["internal/strconv.uint64pow10", "math/bits.deBruijn32tab", "math/bits.deBruijn64tab"], apart := false, laid := [("math/bits.deBruijn32tab", laid_math_bits_deBruijn32tab), ("math/bits.deBruijn64tab", laid_math_bits_deBruijn64tab), ("internal/strconv.uint64pow10", laid_internal_strconv_uint64pow10)] }
def FnTurnOrderSaid : Prop := fnTurnOrderRow.holds Tryz.pinned (OpenSpec.ofChange fnTurnOrderSpec)

/-- ITS FALSE NEIGHBOUR: 'it returns false'. Refute it at one input. -/
def fnTurnOrderWrong : ChangeSpec := { name := "fnTurnOrder", fn := fun _ => fun
  | [d] => { results := [.lit (.bool false)], args := [d] }
  | _ => none }
def FnTurnOrderWrongFalsely : Prop := fnTurnOrderRow.holds Tryz.pinned (OpenSpec.ofChange fnTurnOrderWrong)

/-- 'laws.FnKeyInstance': WHATEVER THE INPUT: true; the input reads as it did. -/
def fnKeyInstanceSpec : ChangeSpec := { name := "fnKeyInstance", fn := fun _ => fun
  | [d1, d2] => { results := [.lit (.bool true)], args := [d1, d2] }
  | _ => none }
def fnKeyInstanceRow : OpenClaim := { program := "ytimfffmcljmfgaagreatdoor", sum := "e192c3b1bc094376e05fd856af490e5fea597f0668ac6096514d1fe137189033", func := "loop.example/prologserver/laws.FnKeyInstance", spec := "fnKeyInstance", unfollowed := true, recurses := true, named := ["internal/strconv.uint64pow10", "math/bits.deBruijn32tab", "math/bits.deBruijn64tab"], apart := false, laid := [("math/bits.deBruijn32tab", laid_math_bits_deBruijn32tab), ("math/bits.deBruijn64tab", laid_math_bits_deBruijn64tab), ("internal/strconv.uint64pow10", laid_internal_strconv_uint64pow10)] }
def FnKeyInstanceSaid : Prop := fnKeyInstanceRow.holds Tryz.pinned (OpenSpec.ofChange fnKeyInstanceSpec)

/-- ITS FALSE NEIGHBOUR: 'it returns false'. Refute it at one input. -/
def fnKeyInstanceWrong : ChangeSpec := { name := "fnKeyInstance", fn := fun _ => fun
  | [d1, d2] => { results := [.lit (.bool false)], args := [d1, d2] }
  | _ => none }
def FnKeyInstanceWrongFalsely : Prop := fnKeyInstanceRow.holds Tryz.pinned (OpenSpec.ofChange fnKeyInstanceWrong)

/-- 'laws.FnAnswerGoals': WHATEVER THE INPUT: true; the input reads as it did. -/
def fnAnswerGoalsSpec : ChangeSpec := { name := "fnAnswerGoals", fn := fun _ => fun
  | [d] => { results := [.lit (.bool true)], args := [d] }
  | _ => none }
def fnAnswerGoalsRow : OpenClaim := { program := "ytimfffmcljmfgaagreatdoor", sum := "e192c3b1bc094376e05fd856af490e5fea597f0668ac6096514d1fe137189033", func := "loop.example/prologserver/laws.FnAnswerGoals", spec := "fnAnswerGoals", inPlace := ["internal/abi.NoEscape", "internal/bytealg.MakeNoZero"], unfollowed := true, recurses := true, named := ["internal/strconv.uint64pow10", "math/bits.deBruijn32tab", "math/bits.deBruijn64tab"], apart := false, laid := [("math/bits.deBruijn32tab", laid_math_bits_deBruijn32tab), ("math/bits.deBruijn64tab", laid_math_bits_deBruijn64tab), ("internal/strconv.uint64pow10", laid_internal_strconv_uint64pow10)] }
def FnAnswerGoalsSaid : Prop := fnAnswerGoalsRow.holds Tryz.pinned (OpenSpec.ofChange fnAnswerGoalsSpec)

/-- ITS FALSE NEIGHBOUR: 'it returns false'. Refute it at one input. -/
def fnAnswerGoalsWrong : ChangeSpec := { name := "fnAnswerGoals", fn := fun _ => fun
  | [d] => { results := [.lit (.bool false)], args := [d] }
  | _ => none }
def FnAnswerGoalsWrongFalsely : Prop := fnAnswerGoalsRow.holds Tryz.pinned (OpenSpec.ofChange fnAnswerGoalsWrong)

/-- 'laws.FnSolveFacts': WHATEVER THE INPUT: true; the input reads as it did. -/
def fnSolveFactsSpec : ChangeSpec := { name := "fnSolveFacts", fn := fun _ => fun
  | [d1, d2] => { results := [.lit (.bool true)], args := [d1, d2] }
  | _ => none }
def fnSolveFactsRow : OpenClaim := { program := "ytimfffmcljmfgaagreatdoor", sum := "e192c3b1bc094376e05fd856af490e5fea597f0668ac6096514d1fe137189033", func := "loop.example/prologserver/laws.FnSolveFacts", spec := "fnSolveFacts", unfollowed := true, recurses := true, named := ["internal/strconv.uint64pow10", "math/bits.deBruijn32tab", "math/bits.deBruijn64tab"], apart := false, laid := [("math/bits.deBruijn32tab", laid_math_bits_deBruijn32tab), ("math/bits.deBruijn64tab", laid_math_bits_deBruijn64tab), ("internal/strconv.uint64pow10", laid_internal_strconv_uint64pow10)] }
def FnSolveFactsSaid : Prop := fnSolveFactsRow.holds Tryz.pinned (OpenSpec.ofChange fnSolveFactsSpec)

/-- ITS FALSE NEIGHBOUR: 'it returns false'. Refute it at one input. -/
def fnSolveFactsWrong : ChangeSpec := { name := "fnSolveFacts", fn := fun _ => fun
  | [d1, d2] => { results := [.lit (.bool false)], args := [d1, d2] }
  | _ => none }
def FnSolveFactsWrongFalsely : Prop := fnSolveFactsRow.holds Tryz.pinned (OpenSpec.ofChange fnSolveFactsWrong)

/-- 'laws.FnAnswersHold': WHATEVER THE INPUT: true; the input reads as it did. -/
def fnAnswersHoldSpec : ChangeSpec := { name := "fnAnswersHold", fn := fun _ => fun
  | [d] => { results := [.lit (.bool true)], args := [d] }
  | _ => none }
def fnAnswersHoldRow : OpenClaim := { program := "ytimfffmcljmfgaagreatdoor", sum := "e192c3b1bc094376e05fd856af490e5fea597f0668ac6096514d1fe137189033", func := "loop.example/prologserver/laws.FnAnswersHold", spec := "fnAnswersHold", unfollowed := true, recurses := true, named := ["internal/strconv.uint64pow10", "math/bits.deBruijn32tab", "math/bits.deBruijn64tab"], apart := false, laid := [("math/bits.deBruijn32tab", laid_math_bits_deBruijn32tab), ("math/bits.deBruijn64tab", laid_math_bits_deBruijn64tab), ("internal/strconv.uint64pow10", laid_internal_strconv_uint64pow10)] }
def FnAnswersHoldSaid : Prop := fnAnswersHoldRow.holds Tryz.pinned (OpenSpec.ofChange fnAnswersHoldSpec)

/-- ITS FALSE NEIGHBOUR: 'it returns false'. Refute it at one input. -/
def fnAnswersHoldWrong : ChangeSpec := { name := "fnAnswersHold", fn := fun _ => fun
  | [d] => { results := [.lit (.bool false)], args := [d] }
  | _ => none }
def FnAnswersHoldWrongFalsely : Prop := fnAnswersHoldRow.holds Tryz.pinned (OpenSpec.ofChange fnAnswersHoldWrong)

/-- 'laws.FnAnswerValid': WHATEVER THE INPUT: true; the input reads as it did. -/
def fnAnswerValidSpec : ChangeSpec := { name := "fnAnswerValid", fn := fun _ => fun
  | [d] => { results := [.lit (.bool true)], args := [d] }
  | _ => none }
def fnAnswerValidRow : OpenClaim := { program := "ytimfffmcljmfgaagreatdoor", sum := "e192c3b1bc094376e05fd856af490e5fea597f0668ac6096514d1fe137189033", func := "loop.example/prologserver/laws.FnAnswerValid", spec := "fnAnswerValid", inPlace := ["internal/abi.NoEscape", "internal/bytealg.MakeNoZero"], unfollowed := true, recurses := true, named := ["internal/strconv.uint64pow10", "math/bits.deBruijn32tab", "math/bits.deBruijn64tab"], apart := false, laid := [("math/bits.deBruijn32tab", laid_math_bits_deBruijn32tab), ("math/bits.deBruijn64tab", laid_math_bits_deBruijn64tab), ("internal/strconv.uint64pow10", laid_internal_strconv_uint64pow10)] }
def FnAnswerValidSaid : Prop := fnAnswerValidRow.holds Tryz.pinned (OpenSpec.ofChange fnAnswerValidSpec)

/-- ITS FALSE NEIGHBOUR: 'it returns false'. Refute it at one input. -/
def fnAnswerValidWrong : ChangeSpec := { name := "fnAnswerValid", fn := fun _ => fun
  | [d] => { results := [.lit (.bool false)], args := [d] }
  | _ => none }
def FnAnswerValidWrongFalsely : Prop := fnAnswerValidRow.holds Tryz.pinned (OpenSpec.ofChange fnAnswerValidWrong)

/-- 'laws.FnExactRunCode': WHATEVER THE INPUT: true; the input reads as it did. -/
def fnExactRunCodeSpec : ChangeSpec := { name := "fnExactRunCode", fn := fun _ => fun
  | [d1, d2, d3, d4] => { results := [.lit (.bool true)], args := [d1, d2, d3, d4] }
  | _ => none }
def fnExactRunCodeRow : OpenClaim := { program := "ytimfffmcljmfgaagreatdoor", sum := "e192c3b1bc094376e05fd856af490e5fea597f0668ac6096514d1fe137189033", func := "loop.example/prologserver/laws.FnExactRunCode", spec := "fnExactRunCode", unfollowed := true, recurses := true, named := ["internal/strconv.uint64pow10", "math/bits.deBruijn32tab", "math/bits.deBruijn64tab"], loops := true, apart := false, laid := [("math/bits.deBruijn32tab", laid_math_bits_deBruijn32tab), ("math/bits.deBruijn64tab", laid_math_bits_deBruijn64tab), ("internal/strconv.uint64pow10", laid_internal_strconv_uint64pow10)] }
def FnExactRunCodeSaid : Prop := fnExactRunCodeRow.holds Tryz.pinned (OpenSpec.ofChange fnExactRunCodeSpec)

/-- ITS FALSE NEIGHBOUR: 'it returns false'. Refute it at one input. -/
def fnExactRunCodeWrong : ChangeSpec := { name := "fnExactRunCode", fn := fun _ => fun
  | [d1, d2, d3, d4] => { results := [.lit (.bool false)], args := [d1, d2, d3, d4] }
  | _ => none }
def FnExactRunCodeWrongFalsely : Prop := fnExactRunCodeRow.holds Tryz.pinned (OpenSpec.ofChange fnExactRunCodeWrong)

/- THE SECOND FORM. 'bulk': how many values and letters a reading holds, each counted each time it is reached (what is shared counts as often as it is met; a slice's spare places count too). A statement '..UptoSaid' is the law's where the arguments, and the package variables that the reading takes, are together of bulk at most 1048576: NARROWER than '..Said'. Prove '..Said' where nothing that the law and all that it calls make is longer than what came in: it says more and counts as full. Else prove '..UptoSaid'. A law counts once. -/
mutual
def uptoBulk {H : Type} : DataW H → Nat
  | .lit (.string bytes) => bytes.length + 1
  | .lit _ => 1
  | .nil => 1
  | .ptr d => uptoBulk d + 1
  | .slice elems spare => uptoBulkAll elems + uptoBulkAll spare + 1
  | .agg parts => uptoBulkAll parts + 1
  | .iface _ d => uptoBulk d + 1
  | .map entries => uptoBulkEntries entries + 1
  | .held _ => 1
def uptoBulkAll {H : Type} : List (DataW H) → Nat
  | [] => 0
  | d :: r => uptoBulk d + uptoBulkAll r
def uptoBulkEntries {H : Type} : List (Lit × DataW H) → Nat
  | [] => 0
  | x :: r => uptoBulkEntry x + uptoBulkEntries r
def uptoBulkEntry {H : Type} : Lit × DataW H → Nat
  | (.string bytes, d) => bytes.length + uptoBulk d + 1
  | (_, d) => uptoBulk d + 1
 end
def uptoSmall : (H : Type) → List (DataW H) → Bool := fun _ ds => decide (uptoBulkAll ds ≤ 1048576)
def OpenSpec.upto (s : _root_.Go.ChangeSpec) : _root_.Go.OpenSpec := { _root_.Go.OpenSpec.ofChange s with cond := some uptoSmall }

/-- 'laws.FnExactSolveIndexed', WHERE WHAT IT READS IS OF BULK AT MOST 1048576: true; the input reads as it did. -/
def fnExactSolveIndexedUptoRow : OpenClaim := { program := "ytimfffmcljmfgaagreatdoor", sum := "e192c3b1bc094376e05fd856af490e5fea597f0668ac6096514d1fe137189033", func := "loop.example/prologserver/laws.FnExactSolveIndexed", spec := "fnExactSolveIndexed", unfollowed := true, recurses := true, named := ["internal/strconv.uint64pow10", "math/bits.deBruijn32tab", "math/bits.deBruijn64tab"], loops := true, apart := false, laid := [("math/bits.deBruijn32tab", laid_math_bits_deBruijn32tab), ("math/bits.deBruijn64tab", laid_math_bits_deBruijn64tab), ("internal/strconv.uint64pow10", laid_internal_strconv_uint64pow10)], narrowed := true }
def FnExactSolveIndexedUptoSaid : Prop := fnExactSolveIndexedUptoRow.holds Tryz.pinned (OpenSpec.upto fnExactSolveIndexedSpec)

/-- 'laws.FnSolveIndexed', WHERE WHAT IT READS IS OF BULK AT MOST 1048576: true; the input reads as it did. -/
def fnSolveIndexedUptoRow : OpenClaim := { program := "ytimfffmcljmfgaagreatdoor", sum := "e192c3b1bc094376e05fd856af490e5fea597f0668ac6096514d1fe137189033", func := "loop.example/prologserver/laws.FnSolveIndexed", spec := "fnSolveIndexed", unfollowed := true, recurses := true, named := ["internal/strconv.uint64pow10", "math/bits.deBruijn32tab", "math/bits.deBruijn64tab"], apart := false, laid := [("math/bits.deBruijn32tab", laid_math_bits_deBruijn32tab), ("math/bits.deBruijn64tab", laid_math_bits_deBruijn64tab), ("internal/strconv.uint64pow10", laid_internal_strconv_uint64pow10)], narrowed := true }
def FnSolveIndexedUptoSaid : Prop := fnSolveIndexedUptoRow.holds Tryz.pinned (OpenSpec.upto fnSolveIndexedSpec)

/-- 'laws.FnExactRoundRobin', WHERE WHAT IT READS IS OF BULK AT MOST 1048576: true; the input reads as it did. -/
def fnExactRoundRobinUptoRow : OpenClaim := { program := "ytimfffmcljmfgaagreatdoor", sum := "e192c3b1bc094376e05fd856af490e5fea597f0668ac6096514d1fe137189033", func := "loop.example/prologserver/laws.FnExactRoundRobin", spec := "fnExactRoundRobin", unfollowed := true, recurses := true, named := ["internal/strconv.uint64pow10", "math/bits.deBruijn32tab", "math/bits.deBruijn64tab"], loops := true, apart := false, laid := [("math/bits.deBruijn32tab", laid_math_bits_deBruijn32tab), ("math/bits.deBruijn64tab", laid_math_bits_deBruijn64tab), ("internal/strconv.uint64pow10", laid_internal_strconv_uint64pow10)], narrowed := true }
def FnExactRoundRobinUptoSaid : Prop := fnExactRoundRobinUptoRow.holds Tryz.pinned (OpenSpec.upto fnExactRoundRobinSpec)

/-- 'laws.FnRoundRobin', WHERE WHAT IT READS IS OF BULK AT MOST 1048576: true; the input reads as it did. -/
def fnRoundRobinUptoRow : OpenClaim := { program := "ytimfffmcljmfgaagreatdoor", sum := "e192c3b1bc094376e05fd856af490e5fea597f0668ac6096514d1fe137189033", func := "loop.example/prologserver/laws.FnRoundRobin", spec := "fnRoundRobin", unfollowed := true, recurses := true, named := ["internal/strconv.uint64pow10", "math/bits.deBruijn32tab", "math/bits.deBruijn64tab"], apart := false, laid := [("math/bits.deBruijn32tab", laid_math_bits_deBruijn32tab), ("math/bits.deBruijn64tab", laid_math_bits_deBruijn64tab), ("internal/strconv.uint64pow10", laid_internal_strconv_uint64pow10)], narrowed := true }
def FnRoundRobinUptoSaid : Prop := fnRoundRobinUptoRow.holds Tryz.pinned (OpenSpec.upto fnRoundRobinSpec)

/-- 'laws.FnTurnSize', WHERE WHAT IT READS IS OF BULK AT MOST 1048576: true; the input reads as it did. -/
def fnTurnSizeUptoRow : OpenClaim := { program := "ytimfffmcljmfgaagreatdoor", sum := "e192c3b1bc094376e05fd856af490e5fea597f0668ac6096514d1fe137189033", func := "loop.example/prologserver/laws.FnTurnSize", spec := "fnTurnSize", unfollowed := true, recurses := true, named := ["internal/strconv.uint64pow10", "math/bits.deBruijn32tab", "math/bits.deBruijn64tab"], apart := false, laid := [("math/bits.deBruijn32tab", laid_math_bits_deBruijn32tab), ("math/bits.deBruijn64tab", laid_math_bits_deBruijn64tab), ("internal/strconv.uint64pow10", laid_internal_strconv_uint64pow10)], narrowed := true }
def FnTurnSizeUptoSaid : Prop := fnTurnSizeUptoRow.holds Tryz.pinned (OpenSpec.upto fnTurnSizeSpec)

/-- 'laws.FnTurnOrder', WHERE WHAT IT READS IS OF BULK AT MOST 1048576: true; the input reads as it did. -/
def fnTurnOrderUptoRow : OpenClaim := { program := "ytimfffmcljmfgaagreatdoor", sum := "e192c3b1bc094376e05fd856af490e5fea597f0668ac6096514d1fe137189033", func := "loop.example/prologserver/laws.FnTurnOrder", spec := "fnTurnOrder", inPlace := ["internal/abi.NoEscape", "internal/bytealg.MakeNoZero"], unfollowed := true, recurses := true, named := ["internal/strconv.uint64pow10", "math/bits.deBruijn32tab", "math/bits.deBruijn64tab"], apart := false, laid := [("math/bits.deBruijn32tab", laid_math_bits_deBruijn32tab), ("math/bits.deBruijn64tab", laid_math_bits_deBruijn64tab), ("internal/strconv.uint64pow10", laid_internal_strconv_uint64pow10)], narrowed := true }
def FnTurnOrderUptoSaid : Prop := fnTurnOrderUptoRow.holds Tryz.pinned (OpenSpec.upto fnTurnOrderSpec)

/-- 'laws.FnKeyInstance', WHERE WHAT IT READS IS OF BULK AT MOST 1048576: true; the input reads as it did. -/
def fnKeyInstanceUptoRow : OpenClaim := { program := "ytimfffmcljmfgaagreatdoor", sum := "e192c3b1bc094376e05fd856af490e5fea597f0668ac6096514d1fe137189033", func := "loop.example/prologserver/laws.FnKeyInstance", spec := "fnKeyInstance", unfollowed := true, recurses := true, named := ["internal/strconv.uint64pow10", "math/bits.deBruijn32tab", "math/bits.deBruijn64tab"], apart := false, laid := [("math/bits.deBruijn32tab", laid_math_bits_deBruijn32tab), ("math/bits.deBruijn64tab", laid_math_bits_deBruijn64tab), ("internal/strconv.uint64pow10", laid_internal_strconv_uint64pow10)], narrowed := true }
def FnKeyInstanceUptoSaid : Prop := fnKeyInstanceUptoRow.holds Tryz.pinned (OpenSpec.upto fnKeyInstanceSpec)

/-- 'laws.FnAnswerGoals', WHERE WHAT IT READS IS OF BULK AT MOST 1048576: true; the input reads as it did. -/
def fnAnswerGoalsUptoRow : OpenClaim := { program := "ytimfffmcljmfgaagreatdoor", sum := "e192c3b1bc094376e05fd856af490e5fea597f0668ac6096514d1fe137189033", func := "loop.example/prologserver/laws.FnAnswerGoals", spec := "fnAnswerGoals", inPlace := ["internal/abi.NoEscape", "internal/bytealg.MakeNoZero"], unfollowed := true, recurses := true, named := ["internal/strconv.uint64pow10", "math/bits.deBruijn32tab", "math/bits.deBruijn64tab"], apart := false, laid := [("math/bits.deBruijn32tab", laid_math_bits_deBruijn32tab), ("math/bits.deBruijn64tab", laid_math_bits_deBruijn64tab), ("internal/strconv.uint64pow10", laid_internal_strconv_uint64pow10)], narrowed := true }
def FnAnswerGoalsUptoSaid : Prop := fnAnswerGoalsUptoRow.holds Tryz.pinned (OpenSpec.upto fnAnswerGoalsSpec)

/-- 'laws.FnSolveFacts', WHERE WHAT IT READS IS OF BULK AT MOST 1048576: true; the input reads as it did. -/
def fnSolveFactsUptoRow : OpenClaim := { program := "ytimfffmcljmfgaagreatdoor", sum := "e192c3b1bc094376e05fd856af490e5fea597f0668ac6096514d1fe137189033", func := "loop.example/prologserver/laws.FnSolveFacts", spec := "fnSolveFacts", unfollowed := true, recurses := true, named := ["internal/strconv.uint64pow10", "math/bits.deBruijn32tab", "math/bits.deBruijn64tab"], apart := false, laid := [("math/bits.deBruijn32tab", laid_math_bits_deBruijn32tab), ("math/bits.deBruijn64tab", laid_math_bits_deBruijn64tab), ("internal/strconv.uint64pow10", laid_internal_strconv_uint64pow10)], narrowed := true }
def FnSolveFactsUptoSaid : Prop := fnSolveFactsUptoRow.holds Tryz.pinned (OpenSpec.upto fnSolveFactsSpec)

/-- 'laws.FnAnswersHold', WHERE WHAT IT READS IS OF BULK AT MOST 1048576: true; the input reads as it did. -/
def fnAnswersHoldUptoRow : OpenClaim := { program := "ytimfffmcljmfgaagreatdoor", sum := "e192c3b1bc094376e05fd856af490e5fea597f0668ac6096514d1fe137189033", func := "loop.example/prologserver/laws.FnAnswersHold", spec := "fnAnswersHold", unfollowed := true, recurses := true, named := ["internal/strconv.uint64pow10", "math/bits.deBruijn32tab", "math/bits.deBruijn64tab"], apart := false, laid := [("math/bits.deBruijn32tab", laid_math_bits_deBruijn32tab), ("math/bits.deBruijn64tab", laid_math_bits_deBruijn64tab), ("internal/strconv.uint64pow10", laid_internal_strconv_uint64pow10)], narrowed := true }
def FnAnswersHoldUptoSaid : Prop := fnAnswersHoldUptoRow.holds Tryz.pinned (OpenSpec.upto fnAnswersHoldSpec)

/-- 'laws.FnAnswerValid', WHERE WHAT IT READS IS OF BULK AT MOST 1048576: true; the input reads as it did. -/
def fnAnswerValidUptoRow : OpenClaim := { program := "ytimfffmcljmfgaagreatdoor", sum := "e192c3b1bc094376e05fd856af490e5fea597f0668ac6096514d1fe137189033", func := "loop.example/prologserver/laws.FnAnswerValid", spec := "fnAnswerValid", inPlace := ["internal/abi.NoEscape", "internal/bytealg.MakeNoZero"], unfollowed := true, recurses := true, named := ["internal/strconv.uint64pow10", "math/bits.deBruijn32tab", "math/bits.deBruijn64tab"], apart := false, laid := [("math/bits.deBruijn32tab", laid_math_bits_deBruijn32tab), ("math/bits.deBruijn64tab", laid_math_bits_deBruijn64tab), ("internal/strconv.uint64pow10", laid_internal_strconv_uint64pow10)], narrowed := true }
def FnAnswerValidUptoSaid : Prop := fnAnswerValidUptoRow.holds Tryz.pinned (OpenSpec.upto fnAnswerValidSpec)

/-- 'laws.FnExactRunCode', WHERE WHAT IT READS IS OF BULK AT MOST 1048576: true; the input reads as it did. -/
def fnExactRunCodeUptoRow : OpenClaim := { program := "ytimfffmcljmfgaagreatdoor", sum := "e192c3b1bc094376e05fd856af490e5fea597f0668ac6096514d1fe137189033", func := "loop.example/prologserver/laws.FnExactRunCode", spec := "fnExactRunCode", unfollowed := true, recurses := true, named := ["internal/strconv.uint64pow10", "math/bits.deBruijn32tab", "math/bits.deBruijn64tab"], loops := true, apart := false, laid := [("math/bits.deBruijn32tab", laid_math_bits_deBruijn32tab), ("math/bits.deBruijn64tab", laid_math_bits_deBruijn64tab), ("internal/strconv.uint64pow10", laid_internal_strconv_uint64pow10)], narrowed := true }
def FnExactRunCodeUptoSaid : Prop := fnExactRunCodeUptoRow.holds Tryz.pinned (OpenSpec.upto fnExactRunCodeSpec)

end Rows
end Go.Proofs.YtimfffmcljmfgaaGreatDoor
