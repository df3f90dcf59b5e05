/-
  NARROWER THAN 'FOR EVERY INPUT', by the rows' own cells (each row's printed sentence says how): FnExactSolveIndexed: loops, laid · FnExactSliceSession: loops, laid · FnExactDrainSession: loops, laid · FnSolvePrefix: laid · FnSolveFuel: laid · FnSolveTrue: laid · FnSolveFail: laid.
  DERIVED. THE GIVEN ROWS OF THIS SEAT. 7 by the template 'for every input the law returns true; each argument reads behind the call as it read before'; 0 by the template 'total and deterministic' (their statements: YtpficjlageaebaaGreatDoorTotals.lean).
  GIVEN WITH THE SEED: the statements are not yours to turn. If you find one false, say at which input.
  Laid BY PROGRAM, IN A SANDBOX (cutbox-rows.mjs): the forced cells as the released guide's own fill.sh prints them over the translation 9bc8a51ce80ed0c8… (all of the seat's roots in one cut). By AI agents, Wed Nov 11 2026. No macro, syntax, notation, axiom, sorry.
-/
import Derived.Test.YtpficjlageaebaaGreatDoorChecked
import GoSem.Claim
import GoSem.ClaimJoined
import GoSem.ClaimMapViews
import Derived.JoinedTies
import Derived.KernelRfl
namespace Go.Proofs.YtpficjlageaebaaGreatDoor
/- THE CELL 'sum', in the pinned program and in every row, IS THE sha256 OF THE DUMP (.gsa) THAT YtpficjlageaebaaGreatDoorProg.lean LOADS. Nothing in Lean hashes anything: it is a label: what it is worth is what the hold of that sum in a sandbox is worth. -/
noncomputable def Tryz.pinned : Pinned := { name := "ytpficjlageaebaagreatdoor", sum := "9bc8a51ce80ed0c8482f91f29086f3b77e018379287863e7473ef3d16d6900f8", checked := Tryz.checked }
namespace Rows
def none {H : Type} : Left H := { results := [], args := [] }

/- WHAT THE LISTED PACKAGE-LEVEL VARIABLES READ AS WHEN THE CALL BEGINS. Each datum BY PROGRAM (the guide's laid-datum.mjs) off the statement by which the dump's own 'gosem.cut.vars' lays the variable. In a bare row this is a premise. The card (YtpficjlageaebaaGreatDoorCards.lean) ties it to the program's text. -/
def laid_math_bits_deBruijn32tab {H : Type} : DataW H := .agg [.lit (.int .u8 0), .lit (.int .u8 1), .lit (.int .u8 28), .lit (.int .u8 2), .lit (.int .u8 29), .lit (.int .u8 14), .lit (.int .u8 24), .lit (.int .u8 3), .lit (.int .u8 30), .lit (.int .u8 22), .lit (.int .u8 20), .lit (.int .u8 15), .lit (.int .u8 25), .lit (.int .u8 17), .lit (.int .u8 4), .lit (.int .u8 8), .lit (.int .u8 31), .lit (.int .u8 27), .lit (.int .u8 13), .lit (.int .u8 23), .lit (.int .u8 21), .lit (.int .u8 19), .lit (.int .u8 16), .lit (.int .u8 7), .lit (.int .u8 26), .lit (.int .u8 12), .lit (.int .u8 18), .lit (.int .u8 6), .lit (.int .u8 11), .lit (.int .u8 5), .lit (.int .u8 10), .lit (.int .u8 9)]
def laid_math_bits_deBruijn64tab {H : Type} : DataW H := .agg [.lit (.int .u8 0), .lit (.int .u8 1), .lit (.int .u8 56), .lit (.int .u8 2), .lit (.int .u8 57), .lit (.int .u8 49), .lit (.int .u8 28), .lit (.int .u8 3), .lit (.int .u8 61), .lit (.int .u8 58), .lit (.int .u8 42), .lit (.int .u8 50), .lit (.int .u8 38), .lit (.int .u8 29), .lit (.int .u8 17), .lit (.int .u8 4), .lit (.int .u8 62), .lit (.int .u8 47), .lit (.int .u8 59), .lit (.int .u8 36), .lit (.int .u8 45), .lit (.int .u8 43), .lit (.int .u8 51), .lit (.int .u8 22), .lit (.int .u8 53), .lit (.int .u8 39), .lit (.int .u8 33), .lit (.int .u8 30), .lit (.int .u8 24), .lit (.int .u8 18), .lit (.int .u8 12), .lit (.int .u8 5), .lit (.int .u8 63), .lit (.int .u8 55), .lit (.int .u8 48), .lit (.int .u8 27), .lit (.int .u8 60), .lit (.int .u8 41), .lit (.int .u8 37), .lit (.int .u8 16), .lit (.int .u8 46), .lit (.int .u8 35), .lit (.int .u8 44), .lit (.int .u8 21), .lit (.int .u8 52), .lit (.int .u8 32), .lit (.int .u8 23), .lit (.int .u8 11), .lit (.int .u8 54), .lit (.int .u8 26), .lit (.int .u8 40), .lit (.int .u8 15), .lit (.int .u8 34), .lit (.int .u8 20), .lit (.int .u8 31), .lit (.int .u8 10), .lit (.int .u8 25), .lit (.int .u8 14), .lit (.int .u8 19), .lit (.int .u8 9), .lit (.int .u8 13), .lit (.int .u8 8), .lit (.int .u8 7), .lit (.int .u8 6)]
def laid_internal_strconv_uint64pow10 {H : Type} : DataW H := .agg [.lit (.int .u64 1), .lit (.int .u64 10), .lit (.int .u64 100), .lit (.int .u64 1000), .lit (.int .u64 10000), .lit (.int .u64 100000), .lit (.int .u64 1000000), .lit (.int .u64 10000000), .lit (.int .u64 100000000), .lit (.int .u64 1000000000), .lit (.int .u64 10000000000), .lit (.int .u64 100000000000), .lit (.int .u64 1000000000000), .lit (.int .u64 10000000000000), .lit (.int .u64 100000000000000), .lit (.int .u64 1000000000000000), .lit (.int .u64 10000000000000000), .lit (.int .u64 100000000000000000), .lit (.int .u64 1000000000000000000), .lit (.int .u64 10000000000000000000)]

/-- 'laws.FnExactSolveIndexed': WHATEVER THE INPUT: true; the input reads as it did. -/
def fnExactSolveIndexedSpec : ChangeSpec := { name := "fnExactSolveIndexed", fn := fun _ => fun
  | [d1, d2, d3, d4] => { results := [.lit (.bool true)], args := [d1, d2, d3, d4] }
  | _ => none }
def fnExactSolveIndexedRow : OpenClaim := { program := "ytpficjlageaebaagreatdoor", sum := "9bc8a51ce80ed0c8482f91f29086f3b77e018379287863e7473ef3d16d6900f8", func := "loop.example/prologserver/laws.FnExactSolveIndexed", spec := "fnExactSolveIndexed", unfollowed := true, recurses := true, named := ["internal/strconv.uint64pow10", "math/bits.deBruijn32tab", "math/bits.deBruijn64tab"], loops := true, apart := false, laid := [("math/bits.deBruijn32tab", laid_math_bits_deBruijn32tab), ("math/bits.deBruijn64tab", laid_math_bits_deBruijn64tab), ("internal/strconv.uint64pow10", laid_internal_strconv_uint64pow10)] }
def FnExactSolveIndexedSaid : Prop := fnExactSolveIndexedRow.holds Tryz.pinned (OpenSpec.ofChange fnExactSolveIndexedSpec)

/-- ITS FALSE NEIGHBOUR: 'it returns false'. Refute it at one input. -/
def fnExactSolveIndexedWrong : ChangeSpec := { name := "fnExactSolveIndexed", fn := fun _ => fun
  | [d1, d2, d3, d4] => { results := [.lit (.bool false)], args := [d1, d2, d3, d4] }
  | _ => none }
def FnExactSolveIndexedWrongFalsely : Prop := fnExactSolveIndexedRow.holds Tryz.pinned (OpenSpec.ofChange fnExactSolveIndexedWrong)

/-- 'laws.FnExactSliceSession': WHATEVER THE INPUT: true; the input reads as it did. -/
def fnExactSliceSessionSpec : ChangeSpec := { name := "fnExactSliceSession", fn := fun _ => fun
  | [d1, d2] => { results := [.lit (.bool true)], args := [d1, d2] }
  | _ => none }
def fnExactSliceSessionRow : OpenClaim := { program := "ytpficjlageaebaagreatdoor", sum := "9bc8a51ce80ed0c8482f91f29086f3b77e018379287863e7473ef3d16d6900f8", func := "loop.example/prologserver/laws.FnExactSliceSession", spec := "fnExactSliceSession", unfollowed := true, recurses := true, named := ["internal/strconv.uint64pow10", "math/bits.deBruijn32tab", "math/bits.deBruijn64tab"], loops := true, apart := false, laid := [("math/bits.deBruijn32tab", laid_math_bits_deBruijn32tab), ("math/bits.deBruijn64tab", laid_math_bits_deBruijn64tab), ("internal/strconv.uint64pow10", laid_internal_strconv_uint64pow10)] }
def FnExactSliceSessionSaid : Prop := fnExactSliceSessionRow.holds Tryz.pinned (OpenSpec.ofChange fnExactSliceSessionSpec)

/-- ITS FALSE NEIGHBOUR: 'it returns false'. Refute it at one input. -/
def fnExactSliceSessionWrong : ChangeSpec := { name := "fnExactSliceSession", fn := fun _ => fun
  | [d1, d2] => { results := [.lit (.bool false)], args := [d1, d2] }
  | _ => none }
def FnExactSliceSessionWrongFalsely : Prop := fnExactSliceSessionRow.holds Tryz.pinned (OpenSpec.ofChange fnExactSliceSessionWrong)

/-- 'laws.FnExactDrainSession': WHATEVER THE INPUT: true; the input reads as it did. -/
def fnExactDrainSessionSpec : ChangeSpec := { name := "fnExactDrainSession", fn := fun _ => fun
  | [d1, d2] => { results := [.lit (.bool true)], args := [d1, d2] }
  | _ => none }
def fnExactDrainSessionRow : OpenClaim := { program := "ytpficjlageaebaagreatdoor", sum := "9bc8a51ce80ed0c8482f91f29086f3b77e018379287863e7473ef3d16d6900f8", func := "loop.example/prologserver/laws.FnExactDrainSession", spec := "fnExactDrainSession", unfollowed := true, recurses := true, named := ["internal/strconv.uint64pow10", "math/bits.deBruijn32tab", "math/bits.deBruijn64tab"], loops := true, apart := false, laid := [("math/bits.deBruijn32tab", laid_math_bits_deBruijn32tab), ("math/bits.deBruijn64tab", laid_math_bits_deBruijn64tab), ("internal/strconv.uint64pow10", laid_internal_strconv_uint64pow10)] }
def FnExactDrainSessionSaid : Prop := fnExactDrainSessionRow.holds Tryz.pinned (OpenSpec.ofChange fnExactDrainSessionSpec)

/-- ITS FALSE NEIGHBOUR: 'it returns false'. Refute it at one input. -/
def fnExactDrainSessionWrong : ChangeSpec := { name := "fnExactDrainSession", fn := fun _ => fun
  | [d1, d2] => { results := [.lit (.bool false)], args := [d1, d2] }
  | _ => none }
def FnExactDrainSessionWrongFalsely : Prop := fnExactDrainSessionRow.holds Tryz.pinned (OpenSpec.ofChange fnExactDrainSessionWrong)

/-- 'laws.FnSolvePrefix': WHATEVER THE INPUT: true; the input reads as it did. -/
def fnSolvePrefixSpec : ChangeSpec := { name := "fnSolvePrefix", fn := fun _ => fun
  | [d1, d2] => { results := [.lit (.bool true)], args := [d1, d2] }
  | _ => none }
def fnSolvePrefixRow : OpenClaim := { program := "ytpficjlageaebaagreatdoor", sum := "9bc8a51ce80ed0c8482f91f29086f3b77e018379287863e7473ef3d16d6900f8", func := "loop.example/prologserver/laws.FnSolvePrefix", spec := "fnSolvePrefix", unfollowed := true, recurses := true, named := ["internal/strconv.uint64pow10", "math/bits.deBruijn32tab", "math/bits.deBruijn64tab"], apart := false, laid := [("math/bits.deBruijn32tab", laid_math_bits_deBruijn32tab), ("math/bits.deBruijn64tab", laid_math_bits_deBruijn64tab), ("internal/strconv.uint64pow10", laid_internal_strconv_uint64pow10)] }
def FnSolvePrefixSaid : Prop := fnSolvePrefixRow.holds Tryz.pinned (OpenSpec.ofChange fnSolvePrefixSpec)

/-- ITS FALSE NEIGHBOUR: 'it returns false'. Refute it at one input. -/
def fnSolvePrefixWrong : ChangeSpec := { name := "fnSolvePrefix", fn := fun _ => fun
  | [d1, d2] => { results := [.lit (.bool false)], args := [d1, d2] }
  | _ => none }
def FnSolvePrefixWrongFalsely : Prop := fnSolvePrefixRow.holds Tryz.pinned (OpenSpec.ofChange fnSolvePrefixWrong)

/-- 'laws.FnSolveFuel': WHATEVER THE INPUT: true; the input reads as it did. -/
def fnSolveFuelSpec : ChangeSpec := { name := "fnSolveFuel", fn := fun _ => fun
  | [d] => { results := [.lit (.bool true)], args := [d] }
  | _ => none }
def fnSolveFuelRow : OpenClaim := { program := "ytpficjlageaebaagreatdoor", sum := "9bc8a51ce80ed0c8482f91f29086f3b77e018379287863e7473ef3d16d6900f8", func := "loop.example/prologserver/laws.FnSolveFuel", spec := "fnSolveFuel", unfollowed := true, recurses := true, named := ["internal/strconv.uint64pow10", "math/bits.deBruijn32tab", "math/bits.deBruijn64tab"], apart := false, laid := [("math/bits.deBruijn32tab", laid_math_bits_deBruijn32tab), ("math/bits.deBruijn64tab", laid_math_bits_deBruijn64tab), ("internal/strconv.uint64pow10", laid_internal_strconv_uint64pow10)] }
def FnSolveFuelSaid : Prop := fnSolveFuelRow.holds Tryz.pinned (OpenSpec.ofChange fnSolveFuelSpec)

/-- ITS FALSE NEIGHBOUR: 'it returns false'. Refute it at one input. -/
def fnSolveFuelWrong : ChangeSpec := { name := "fnSolveFuel", fn := fun _ => fun
  | [d] => { results := [.lit (.bool false)], args := [d] }
  | _ => none }
def FnSolveFuelWrongFalsely : Prop := fnSolveFuelRow.holds Tryz.pinned (OpenSpec.ofChange fnSolveFuelWrong)

/-- 'laws.FnSolveTrue': WHATEVER THE INPUT: true; the input reads as it did. -/
def fnSolveTrueSpec : ChangeSpec := { name := "fnSolveTrue", fn := fun _ => fun
  | [d] => { results := [.lit (.bool true)], args := [d] }
  | _ => none }
def fnSolveTrueRow : OpenClaim := { program := "ytpficjlageaebaagreatdoor", sum := "9bc8a51ce80ed0c8482f91f29086f3b77e018379287863e7473ef3d16d6900f8", func := "loop.example/prologserver/laws.FnSolveTrue", spec := "fnSolveTrue", unfollowed := true, recurses := true, named := ["internal/strconv.uint64pow10", "math/bits.deBruijn32tab", "math/bits.deBruijn64tab"], apart := false, laid := [("math/bits.deBruijn32tab", laid_math_bits_deBruijn32tab), ("math/bits.deBruijn64tab", laid_math_bits_deBruijn64tab), ("internal/strconv.uint64pow10", laid_internal_strconv_uint64pow10)] }
def FnSolveTrueSaid : Prop := fnSolveTrueRow.holds Tryz.pinned (OpenSpec.ofChange fnSolveTrueSpec)

/-- ITS FALSE NEIGHBOUR: 'it returns false'. Refute it at one input. -/
def fnSolveTrueWrong : ChangeSpec := { name := "fnSolveTrue", fn := fun _ => fun
  | [d] => { results := [.lit (.bool false)], args := [d] }
  | _ => none }
def FnSolveTrueWrongFalsely : Prop := fnSolveTrueRow.holds Tryz.pinned (OpenSpec.ofChange fnSolveTrueWrong)

/-- 'laws.FnSolveFail': WHATEVER THE INPUT: true; the input reads as it did. -/
def fnSolveFailSpec : ChangeSpec := { name := "fnSolveFail", fn := fun _ => fun
  | [d] => { results := [.lit (.bool true)], args := [d] }
  | _ => none }
def fnSolveFailRow : OpenClaim := { program := "ytpficjlageaebaagreatdoor", sum := "9bc8a51ce80ed0c8482f91f29086f3b77e018379287863e7473ef3d16d6900f8", func := "loop.example/prologserver/laws.FnSolveFail", spec := "fnSolveFail", unfollowed := true, recurses := true, named := ["internal/strconv.uint64pow10", "math/bits.deBruijn32tab", "math/bits.deBruijn64tab"], apart := false, laid := [("math/bits.deBruijn32tab", laid_math_bits_deBruijn32tab), ("math/bits.deBruijn64tab", laid_math_bits_deBruijn64tab), ("internal/strconv.uint64pow10", laid_internal_strconv_uint64pow10)] }
def FnSolveFailSaid : Prop := fnSolveFailRow.holds Tryz.pinned (OpenSpec.ofChange fnSolveFailSpec)

/-- ITS FALSE NEIGHBOUR: 'it returns false'. Refute it at one input. -/
def fnSolveFailWrong : ChangeSpec := { name := "fnSolveFail", fn := fun _ => fun
  | [d] => { results := [.lit (.bool false)], args := [d] }
  | _ => none }
def FnSolveFailWrongFalsely : Prop := fnSolveFailRow.holds Tryz.pinned (OpenSpec.ofChange fnSolveFailWrong)

/- THE SECOND FORM. 'bulk': how many values and letters a reading holds, each counted each time it is reached (what is shared counts as often as it is met; a slice's spare places count too). A statement '..UptoSaid' is the law's where the arguments, and the package variables that the reading takes, are together of bulk at most 1048576: NARROWER than '..Said'. Prove '..Said' where nothing that the law and all that it calls make is longer than what came in: it says more and counts as full. Else prove '..UptoSaid'. A law counts once. -/
mutual
def uptoBulk {H : Type} : DataW H → Nat
  | .lit (.string bytes) => bytes.length + 1
  | .lit _ => 1
  | .nil => 1
  | .ptr d => uptoBulk d + 1
  | .slice elems spare => uptoBulkAll elems + uptoBulkAll spare + 1
  | .agg parts => uptoBulkAll parts + 1
  | .iface _ d => uptoBulk d + 1
  | .map entries => uptoBulkEntries entries + 1
  | .held _ => 1
def uptoBulkAll {H : Type} : List (DataW H) → Nat
  | [] => 0
  | d :: r => uptoBulk d + uptoBulkAll r
def uptoBulkEntries {H : Type} : List (Lit × DataW H) → Nat
  | [] => 0
  | x :: r => uptoBulkEntry x + uptoBulkEntries r
def uptoBulkEntry {H : Type} : Lit × DataW H → Nat
  | (.string bytes, d) => bytes.length + uptoBulk d + 1
  | (_, d) => uptoBulk d + 1
 end
def uptoSmall : (H : Type) → List (DataW H) → Bool := fun _ ds => decide (uptoBulkAll ds ≤ 1048576)
def OpenSpec.upto (s : _root_.Go.ChangeSpec) : _root_.Go.OpenSpec := { _root_.Go.OpenSpec.ofChange s with cond := some uptoSmall }

/-- 'laws.FnExactSolveIndexed', WHERE WHAT IT READS IS OF BULK AT MOST 1048576: true; the input reads as it did. -/
def fnExactSolveIndexedUptoRow : OpenClaim := { program := "ytpficjlageaebaagreatdoor", sum := "9bc8a51ce80ed0c8482f91f29086f3b77e018379287863e7473ef3d16d6900f8", func := "loop.example/prologserver/laws.FnExactSolveIndexed", spec := "fnExactSolveIndexed", unfollowed := true, recurses := true, named := ["internal/strconv.uint64pow10", "math/bits.deBruijn32tab", "math/bits.deBruijn64tab"], loops := true, apart := false, laid := [("math/bits.deBruijn32tab", laid_math_bits_deBruijn32tab), ("math/bits.deBruijn64tab", laid_math_bits_deBruijn64tab), ("internal/strconv.uint64pow10", laid_internal_strconv_uint64pow10)], narrowed := true }
def FnExactSolveIndexedUptoSaid : Prop := fnExactSolveIndexedUptoRow.holds Tryz.pinned (OpenSpec.upto fnExactSolveIndexedSpec)

/-- 'laws.FnExactSliceSession', WHERE WHAT IT READS IS OF BULK AT MOST 1048576: true; the input reads as it did. -/
def fnExactSliceSessionUptoRow : OpenClaim := { program := "ytpficjlageaebaagreatdoor", sum := "9bc8a51ce80ed0c8482f91f29086f3b77e018379287863e7473ef3d16d6900f8", func := "loop.example/prologserver/laws.FnExactSliceSession", spec := "fnExactSliceSession", unfollowed := true, recurses := true, named := ["internal/strconv.uint64pow10", "math/bits.deBruijn32tab", "math/bits.deBruijn64tab"], loops := true, apart := false, laid := [("math/bits.deBruijn32tab", laid_math_bits_deBruijn32tab), ("math/bits.deBruijn64tab", laid_math_bits_deBruijn64tab), ("internal/strconv.uint64pow10", laid_internal_strconv_uint64pow10)], narrowed := true }
def FnExactSliceSessionUptoSaid : Prop := fnExactSliceSessionUptoRow.holds Tryz.pinned (OpenSpec.upto fnExactSliceSessionSpec)

/-- 'laws.FnExactDrainSession', WHERE WHAT IT READS IS OF BULK AT MOST 1048576: true; the input reads as it did. -/
def fnExactDrainSessionUptoRow : OpenClaim := { program := "ytpficjlageaebaagreatdoor", sum := "9bc8a51ce80ed0c8482f91f29086f3b77e018379287863e7473ef3d16d6900f8", func := "loop.example/prologserver/laws.FnExactDrainSession", spec := "fnExactDrainSession", unfollowed := true, recurses := true, named := ["internal/strconv.uint64pow10", "math/bits.deBruijn32tab", "math/bits.deBruijn64tab"], loops := true, apart := false, laid := [("math/bits.deBruijn32tab", laid_math_bits_deBruijn32tab), ("math/bits.deBruijn64tab", laid_math_bits_deBruijn64tab), ("internal/strconv.uint64pow10", laid_internal_strconv_uint64pow10)], narrowed := true }
def FnExactDrainSessionUptoSaid : Prop := fnExactDrainSessionUptoRow.holds Tryz.pinned (OpenSpec.upto fnExactDrainSessionSpec)

/-- 'laws.FnSolvePrefix', WHERE WHAT IT READS IS OF BULK AT MOST 1048576: true; the input reads as it did. -/
def fnSolvePrefixUptoRow : OpenClaim := { program := "ytpficjlageaebaagreatdoor", sum := "9bc8a51ce80ed0c8482f91f29086f3b77e018379287863e7473ef3d16d6900f8", func := "loop.example/prologserver/laws.FnSolvePrefix", spec := "fnSolvePrefix", unfollowed := true, recurses := true, named := ["internal/strconv.uint64pow10", "math/bits.deBruijn32tab", "math/bits.deBruijn64tab"], apart := false, laid := [("math/bits.deBruijn32tab", laid_math_bits_deBruijn32tab), ("math/bits.deBruijn64tab", laid_math_bits_deBruijn64tab), ("internal/strconv.uint64pow10", laid_internal_strconv_uint64pow10)], narrowed := true }
def FnSolvePrefixUptoSaid : Prop := fnSolvePrefixUptoRow.holds Tryz.pinned (OpenSpec.upto fnSolvePrefixSpec)

/-- 'laws.FnSolveFuel', WHERE WHAT IT READS IS OF BULK AT MOST 1048576: true; the input reads as it did. -/
def fnSolveFuelUptoRow : OpenClaim := { program := "ytpficjlageaebaagreatdoor", sum := "9bc8a51ce80ed0c8482f91f29086f3b77e018379287863e7473ef3d16d6900f8", func := "loop.example/prologserver/laws.FnSolveFuel", spec := "fnSolveFuel", unfollowed := true, recurses := true, named := ["internal/strconv.uint64pow10", "math/bits.deBruijn32tab", "math/bits.deBruijn64tab"], apart := false, laid := [("math/bits.deBruijn32tab", laid_math_bits_deBruijn32tab), ("math/bits.deBruijn64tab", laid_math_bits_deBruijn64tab), ("internal/strconv.uint64pow10", laid_internal_strconv_uint64pow10)], narrowed := true }
def FnSolveFuelUptoSaid : Prop := fnSolveFuelUptoRow.holds Tryz.pinned (OpenSpec.upto fnSolveFuelSpec)

/-- 'laws.FnSolveTrue', WHERE WHAT IT READS IS OF BULK AT MOST 1048576: true; the input reads as it did. -/
def fnSolveTrueUptoRow : OpenClaim := { program := "ytpficjlageaebaagreatdoor", sum := "9bc8a51ce80ed0c8482f91f29086f3b77e018379287863e7473ef3d16d6900f8", func := "loop.example/prologserver/laws.FnSolveTrue", spec := "fnSolveTrue", unfollowed := true, recurses := true, named := ["internal/strconv.uint64pow10", "math/bits.deBruijn32tab", "math/bits.deBruijn64tab"], apart := false, laid := [("math/bits.deBruijn32tab", laid_math_bits_deBruijn32tab), ("math/bits.deBruijn64tab", laid_math_bits_deBruijn64tab), ("internal/strconv.uint64pow10", laid_internal_strconv_uint64pow10)], narrowed := true }
def FnSolveTrueUptoSaid : Prop := fnSolveTrueUptoRow.holds Tryz.pinned (OpenSpec.upto fnSolveTrueSpec)

/-- 'laws.FnSolveFail', WHERE WHAT IT READS IS OF BULK AT MOST 1048576: true; the input reads as it did. -/
def fnSolveFailUptoRow : OpenClaim := { program := "ytpficjlageaebaagreatdoor", sum := "9bc8a51ce80ed0c8482f91f29086f3b77e018379287863e7473ef3d16d6900f8", func := "loop.example/prologserver/laws.FnSolveFail", spec := "fnSolveFail", unfollowed := true, recurses := true, named := ["internal/strconv.uint64pow10", "math/bits.deBruijn32tab", "math/bits.deBruijn64tab"], apart := false, laid := [("math/bits.deBruijn32tab", laid_math_bits_deBruijn32tab), ("math/bits.deBruijn64tab", laid_math_bits_deBruijn64tab), ("internal/strconv.uint64pow10", laid_internal_strconv_uint64pow10)], narrowed := true }
def FnSolveFailUptoSaid : Prop := fnSolveFailUptoRow.holds Tryz.pinned (OpenSpec.upto fnSolveFailSpec)

end Rows
end Go.Proofs.YtpficjlageaebaaGreatDoor
