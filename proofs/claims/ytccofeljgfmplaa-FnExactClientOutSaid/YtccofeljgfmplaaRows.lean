/-
  NARROWER THAN 'FOR EVERY INPUT', by the rows' own cells (each row's printed sentence says how): FnExactAnswerGoals: loops · FnExactClientOut: loops · FnExactOpenSession: loops.
  DERIVED. THE GIVEN ROWS OF THIS SEAT. 8 by the template 'for every input the law returns true; each argument reads behind the call as it read before'; 0 by the template 'total and deterministic' (their statements: YtccofeljgfmplaaTotals.lean).
  GIVEN WITH THE SEED: the statements are not yours to turn. If you find one false, say at which input.
  Laid BY PROGRAM, IN A SANDBOX (cutbox-rows.mjs): the forced cells as the released guide's own fill.sh prints them over the translation c87dd78facd1aec0… (all of the seat's roots in one cut). By AI agents, Wed Nov 11 2026. No macro, syntax, notation, axiom, sorry.
-/
import Derived.Test.YtccofeljgfmplaaChecked
import GoSem.Claim
import GoSem.ClaimJoined
import GoSem.ClaimMapViews
import Derived.JoinedTies
import Derived.KernelRfl
namespace Go.Proofs.Ytccofeljgfmplaa
/- THE CELL 'sum', in the pinned program and in every row, IS THE sha256 OF THE DUMP (.gsa) THAT YtccofeljgfmplaaProg.lean LOADS. Nothing in Lean hashes anything: it is a label: what it is worth is what the hold of that sum in a sandbox is worth. -/
noncomputable def Try.pinned : Pinned := { name := "ytccofeljgfmplaa", sum := "c87dd78facd1aec05741dbe646c22e86311524d1bce590211e28afe9b88dbb70", checked := Try.checked }
namespace Rows
def none {H : Type} : Left H := { results := [], args := [] }

/-- 'laws.FnExactAnswerGoals': WHATEVER THE INPUT: true; the input reads as it did. -/
def fnExactAnswerGoalsSpec : ChangeSpec := { name := "fnExactAnswerGoals", fn := fun _ => fun
  | [d1, d2] => { results := [.lit (.bool true)], args := [d1, d2] }
  | _ => none }
def fnExactAnswerGoalsRow : OpenClaim := { program := "ytccofeljgfmplaa", sum := "c87dd78facd1aec05741dbe646c22e86311524d1bce590211e28afe9b88dbb70", func := "loop.example/prologserver/laws.FnExactAnswerGoals", spec := "fnExactAnswerGoals", unfollowed := true, recurses := true, loops := true, apart := false }
def FnExactAnswerGoalsSaid : Prop := fnExactAnswerGoalsRow.holds Try.pinned (OpenSpec.ofChange fnExactAnswerGoalsSpec)

/-- ITS FALSE NEIGHBOUR: 'it returns false'. Refute it at one input. -/
def fnExactAnswerGoalsWrong : ChangeSpec := { name := "fnExactAnswerGoals", fn := fun _ => fun
  | [d1, d2] => { results := [.lit (.bool false)], args := [d1, d2] }
  | _ => none }
def FnExactAnswerGoalsWrongFalsely : Prop := fnExactAnswerGoalsRow.holds Try.pinned (OpenSpec.ofChange fnExactAnswerGoalsWrong)

/-- 'laws.FnUnifyParts': WHATEVER THE INPUT: true; the input reads as it did. -/
def fnUnifyPartsSpec : ChangeSpec := { name := "fnUnifyParts", fn := fun _ => fun
  | [d] => { results := [.lit (.bool true)], args := [d] }
  | _ => none }
def fnUnifyPartsRow : OpenClaim := { program := "ytccofeljgfmplaa", sum := "c87dd78facd1aec05741dbe646c22e86311524d1bce590211e28afe9b88dbb70", func := "loop.example/prologserver/laws.FnUnifyParts", spec := "fnUnifyParts", unfollowed := true, recurses := true, apart := false }
def FnUnifyPartsSaid : Prop := fnUnifyPartsRow.holds Try.pinned (OpenSpec.ofChange fnUnifyPartsSpec)

/-- ITS FALSE NEIGHBOUR: 'it returns false'. Refute it at one input. -/
def fnUnifyPartsWrong : ChangeSpec := { name := "fnUnifyParts", fn := fun _ => fun
  | [d] => { results := [.lit (.bool false)], args := [d] }
  | _ => none }
def FnUnifyPartsWrongFalsely : Prop := fnUnifyPartsRow.holds Try.pinned (OpenSpec.ofChange fnUnifyPartsWrong)

/-- 'laws.FnUnifyTerms': WHATEVER THE INPUT: true; the input reads as it did. -/
def fnUnifyTermsSpec : ChangeSpec := { name := "fnUnifyTerms", fn := fun _ => fun
  | [d] => { results := [.lit (.bool true)], args := [d] }
  | _ => none }
def fnUnifyTermsRow : OpenClaim := { program := "ytccofeljgfmplaa", sum := "c87dd78facd1aec05741dbe646c22e86311524d1bce590211e28afe9b88dbb70", func := "loop.example/prologserver/laws.FnUnifyTerms", spec := "fnUnifyTerms", unfollowed := true, recurses := true, apart := false }
def FnUnifyTermsSaid : Prop := fnUnifyTermsRow.holds Try.pinned (OpenSpec.ofChange fnUnifyTermsSpec)

/-- ITS FALSE NEIGHBOUR: 'it returns false'. Refute it at one input. -/
def fnUnifyTermsWrong : ChangeSpec := { name := "fnUnifyTerms", fn := fun _ => fun
  | [d] => { results := [.lit (.bool false)], args := [d] }
  | _ => none }
def FnUnifyTermsWrongFalsely : Prop := fnUnifyTermsRow.holds Try.pinned (OpenSpec.ofChange fnUnifyTermsWrong)

/-- 'laws.FnExactClientOut': WHATEVER THE INPUT: true; the input reads as it did. -/
def fnExactClientOutSpec : ChangeSpec := { name := "fnExactClientOut", fn := fun _ => fun
  | [d1, d2] => { results := [.lit (.bool true)], args := [d1, d2] }
  | _ => none }
def fnExactClientOutRow : OpenClaim := { program := "ytccofeljgfmplaa", sum := "c87dd78facd1aec05741dbe646c22e86311524d1bce590211e28afe9b88dbb70", func := "loop.example/prologserver/laws.FnExactClientOut", spec := "fnExactClientOut", recurses := true, loops := true, apart := false }
def FnExactClientOutSaid : Prop := fnExactClientOutRow.holds Try.pinned (OpenSpec.ofChange fnExactClientOutSpec)

/-- ITS FALSE NEIGHBOUR: 'it returns false'. Refute it at one input. -/
def fnExactClientOutWrong : ChangeSpec := { name := "fnExactClientOut", fn := fun _ => fun
  | [d1, d2] => { results := [.lit (.bool false)], args := [d1, d2] }
  | _ => none }
def FnExactClientOutWrongFalsely : Prop := fnExactClientOutRow.holds Try.pinned (OpenSpec.ofChange fnExactClientOutWrong)

/-- 'laws.FnExactOpenSession': WHATEVER THE INPUT: true; the input reads as it did. -/
def fnExactOpenSessionSpec : ChangeSpec := { name := "fnExactOpenSession", fn := fun _ => fun
  | [d1, d2, d3] => { results := [.lit (.bool true)], args := [d1, d2, d3] }
  | _ => none }
def fnExactOpenSessionRow : OpenClaim := { program := "ytccofeljgfmplaa", sum := "c87dd78facd1aec05741dbe646c22e86311524d1bce590211e28afe9b88dbb70", func := "loop.example/prologserver/laws.FnExactOpenSession", spec := "fnExactOpenSession", unfollowed := true, recurses := true, loops := true, apart := false }
def FnExactOpenSessionSaid : Prop := fnExactOpenSessionRow.holds Try.pinned (OpenSpec.ofChange fnExactOpenSessionSpec)

/-- ITS FALSE NEIGHBOUR: 'it returns false'. Refute it at one input. -/
def fnExactOpenSessionWrong : ChangeSpec := { name := "fnExactOpenSession", fn := fun _ => fun
  | [d1, d2, d3] => { results := [.lit (.bool false)], args := [d1, d2, d3] }
  | _ => none }
def FnExactOpenSessionWrongFalsely : Prop := fnExactOpenSessionRow.holds Try.pinned (OpenSpec.ofChange fnExactOpenSessionWrong)

/-- 'laws.FnUnifySwap': WHATEVER THE INPUT: true; the input reads as it did. -/
def fnUnifySwapSpec : ChangeSpec := { name := "fnUnifySwap", fn := fun _ => fun
  | [d] => { results := [.lit (.bool true)], args := [d] }
  | _ => none }
def fnUnifySwapRow : OpenClaim := { program := "ytccofeljgfmplaa", sum := "c87dd78facd1aec05741dbe646c22e86311524d1bce590211e28afe9b88dbb70", func := "loop.example/prologserver/laws.FnUnifySwap", spec := "fnUnifySwap", unfollowed := true, recurses := true, apart := false }
def FnUnifySwapSaid : Prop := fnUnifySwapRow.holds Try.pinned (OpenSpec.ofChange fnUnifySwapSpec)

/-- ITS FALSE NEIGHBOUR: 'it returns false'. Refute it at one input. -/
def fnUnifySwapWrong : ChangeSpec := { name := "fnUnifySwap", fn := fun _ => fun
  | [d] => { results := [.lit (.bool false)], args := [d] }
  | _ => none }
def FnUnifySwapWrongFalsely : Prop := fnUnifySwapRow.holds Try.pinned (OpenSpec.ofChange fnUnifySwapWrong)

/-- 'laws.FnUnifyGeneral': WHATEVER THE INPUT: true; the input reads as it did. -/
def fnUnifyGeneralSpec : ChangeSpec := { name := "fnUnifyGeneral", fn := fun _ => fun
  | [d1, d2] => { results := [.lit (.bool true)], args := [d1, d2] }
  | _ => none }
def fnUnifyGeneralRow : OpenClaim := { program := "ytccofeljgfmplaa", sum := "c87dd78facd1aec05741dbe646c22e86311524d1bce590211e28afe9b88dbb70", func := "loop.example/prologserver/laws.FnUnifyGeneral", spec := "fnUnifyGeneral", unfollowed := true, recurses := true, apart := false }
def FnUnifyGeneralSaid : Prop := fnUnifyGeneralRow.holds Try.pinned (OpenSpec.ofChange fnUnifyGeneralSpec)

/-- ITS FALSE NEIGHBOUR: 'it returns false'. Refute it at one input. -/
def fnUnifyGeneralWrong : ChangeSpec := { name := "fnUnifyGeneral", fn := fun _ => fun
  | [d1, d2] => { results := [.lit (.bool false)], args := [d1, d2] }
  | _ => none }
def FnUnifyGeneralWrongFalsely : Prop := fnUnifyGeneralRow.holds Try.pinned (OpenSpec.ofChange fnUnifyGeneralWrong)

/-- 'laws.FnCallBuiltin': WHATEVER THE INPUT: true; the input reads as it did. -/
def fnCallBuiltinSpec : ChangeSpec := { name := "fnCallBuiltin", fn := fun _ => fun
  | [d] => { results := [.lit (.bool true)], args := [d] }
  | _ => none }
def fnCallBuiltinRow : OpenClaim := { program := "ytccofeljgfmplaa", sum := "c87dd78facd1aec05741dbe646c22e86311524d1bce590211e28afe9b88dbb70", func := "loop.example/prologserver/laws.FnCallBuiltin", spec := "fnCallBuiltin", unfollowed := true, recurses := true, apart := false }
def FnCallBuiltinSaid : Prop := fnCallBuiltinRow.holds Try.pinned (OpenSpec.ofChange fnCallBuiltinSpec)

/-- ITS FALSE NEIGHBOUR: 'it returns false'. Refute it at one input. -/
def fnCallBuiltinWrong : ChangeSpec := { name := "fnCallBuiltin", fn := fun _ => fun
  | [d] => { results := [.lit (.bool false)], args := [d] }
  | _ => none }
def FnCallBuiltinWrongFalsely : Prop := fnCallBuiltinRow.holds Try.pinned (OpenSpec.ofChange fnCallBuiltinWrong)

/- THE SECOND FORM. 'bulk': how many values and letters a reading holds, each counted each time it is reached (what is shared counts as often as it is met; a slice's spare places count too). A statement '..UptoSaid' is the law's where the arguments, and the package variables that the reading takes, are together of bulk at most 1048576: NARROWER than '..Said'. Prove '..Said' where nothing that the law and all that it calls make is longer than what came in: it says more and counts as full. Else prove '..UptoSaid'. A law counts once. -/
mutual
def uptoBulk {H : Type} : DataW H → Nat
  | .lit (.string bytes) => bytes.length + 1
  | .lit _ => 1
  | .nil => 1
  | .ptr d => uptoBulk d + 1
  | .slice elems spare => uptoBulkAll elems + uptoBulkAll spare + 1
  | .agg parts => uptoBulkAll parts + 1
  | .iface _ d => uptoBulk d + 1
  | .map entries => uptoBulkEntries entries + 1
  | .held _ => 1
def uptoBulkAll {H : Type} : List (DataW H) → Nat
  | [] => 0
  | d :: r => uptoBulk d + uptoBulkAll r
def uptoBulkEntries {H : Type} : List (Lit × DataW H) → Nat
  | [] => 0
  | x :: r => uptoBulkEntry x + uptoBulkEntries r
def uptoBulkEntry {H : Type} : Lit × DataW H → Nat
  | (.string bytes, d) => bytes.length + uptoBulk d + 1
  | (_, d) => uptoBulk d + 1
 end
def uptoSmall : (H : Type) → List (DataW H) → Bool := fun _ ds => decide (uptoBulkAll ds ≤ 1048576)
def OpenSpec.upto (s : _root_.Go.ChangeSpec) : _root_.Go.OpenSpec := { _root_.Go.OpenSpec.ofChange s with cond := some uptoSmall }

/-- 'laws.FnExactAnswerGoals', WHERE WHAT IT READS IS OF BULK AT MOST 1048576: true; the input reads as it did. -/
def fnExactAnswerGoalsUptoRow : OpenClaim := { program := "ytccofeljgfmplaa", sum := "c87dd78facd1aec05741dbe646c22e86311524d1bce590211e28afe9b88dbb70", func := "loop.example/prologserver/laws.FnExactAnswerGoals", spec := "fnExactAnswerGoals", unfollowed := true, recurses := true, loops := true, apart := false, narrowed := true }
def FnExactAnswerGoalsUptoSaid : Prop := fnExactAnswerGoalsUptoRow.holds Try.pinned (OpenSpec.upto fnExactAnswerGoalsSpec)

/-- 'laws.FnUnifyParts', WHERE WHAT IT READS IS OF BULK AT MOST 1048576: true; the input reads as it did. -/
def fnUnifyPartsUptoRow : OpenClaim := { program := "ytccofeljgfmplaa", sum := "c87dd78facd1aec05741dbe646c22e86311524d1bce590211e28afe9b88dbb70", func := "loop.example/prologserver/laws.FnUnifyParts", spec := "fnUnifyParts", unfollowed := true, recurses := true, apart := false, narrowed := true }
def FnUnifyPartsUptoSaid : Prop := fnUnifyPartsUptoRow.holds Try.pinned (OpenSpec.upto fnUnifyPartsSpec)

/-- 'laws.FnUnifyTerms', WHERE WHAT IT READS IS OF BULK AT MOST 1048576: true; the input reads as it did. -/
def fnUnifyTermsUptoRow : OpenClaim := { program := "ytccofeljgfmplaa", sum := "c87dd78facd1aec05741dbe646c22e86311524d1bce590211e28afe9b88dbb70", func := "loop.example/prologserver/laws.FnUnifyTerms", spec := "fnUnifyTerms", unfollowed := true, recurses := true, apart := false, narrowed := true }
def FnUnifyTermsUptoSaid : Prop := fnUnifyTermsUptoRow.holds Try.pinned (OpenSpec.upto fnUnifyTermsSpec)

/-- 'laws.FnExactClientOut', WHERE WHAT IT READS IS OF BULK AT MOST 1048576: true; the input reads as it did. -/
def fnExactClientOutUptoRow : OpenClaim := { program := "ytccofeljgfmplaa", sum := "c87dd78facd1aec05741dbe646c22e86311524d1bce590211e28afe9b88dbb70", func := "loop.example/prologserver/laws.FnExactClientOut", spec := "fnExactClientOut", recurses := true, loops := true, apart := false, narrowed := true }
def FnExactClientOutUptoSaid : Prop := fnExactClientOutUptoRow.holds Try.pinned (OpenSpec.upto fnExactClientOutSpec)

/-- 'laws.FnExactOpenSession', WHERE WHAT IT READS IS OF BULK AT MOST 1048576: true; the input reads as it did. -/
def fnExactOpenSessionUptoRow : OpenClaim := { program := "ytccofeljgfmplaa", sum := "c87dd78facd1aec05741dbe646c22e86311524d1bce590211e28afe9b88dbb70", func := "loop.example/prologserver/laws.FnExactOpenSession", spec := "fnExactOpenSession", unfollowed := true, recurses := true, loops := true, apart := false, narrowed := true }
def FnExactOpenSessionUptoSaid : Prop := fnExactOpenSessionUptoRow.holds Try.pinned (OpenSpec.upto fnExactOpenSessionSpec)

/-- 'laws.FnUnifySwap', WHERE WHAT IT READS IS OF BULK AT MOST 1048576: true; the input reads as it did. -/
def fnUnifySwapUptoRow : OpenClaim := { program := "ytccofeljgfmplaa", sum := "c87dd78facd1aec05741dbe646c22e86311524d1bce590211e28afe9b88dbb70", func := "loop.example/prologserver/laws.FnUnifySwap", spec := "fnUnifySwap", unfollowed := true, recurses := true, apart := false, narrowed := true }
def FnUnifySwapUptoSaid : Prop := fnUnifySwapUptoRow.holds Try.pinned (OpenSpec.upto fnUnifySwapSpec)

/-- 'laws.FnUnifyGeneral', WHERE WHAT IT READS IS OF BULK AT MOST 1048576: true; the input reads as it did. -/
def fnUnifyGeneralUptoRow : OpenClaim := { program := "ytccofeljgfmplaa", sum := "c87dd78facd1aec05741dbe646c22e86311524d1bce590211e28afe9b88dbb70", func := "loop.example/prologserver/laws.FnUnifyGeneral", spec := "fnUnifyGeneral", unfollowed := true, recurses := true, apart := false, narrowed := true }
def FnUnifyGeneralUptoSaid : Prop := fnUnifyGeneralUptoRow.holds Try.pinned (OpenSpec.upto fnUnifyGeneralSpec)

/-- 'laws.FnCallBuiltin', WHERE WHAT IT READS IS OF BULK AT MOST 1048576: true; the input reads as it did. -/
def fnCallBuiltinUptoRow : OpenClaim := { program := "ytccofeljgfmplaa", sum := "c87dd78facd1aec05741dbe646c22e86311524d1bce590211e28afe9b88dbb70", func := "loop.example/prologserver/laws.FnCallBuiltin", spec := "fnCallBuiltin", unfollowed := true, recurses := true, apart := false, narrowed := true }
def FnCallBuiltinUptoSaid : Prop := fnCallBuiltinUptoRow.holds Try.pinned (OpenSpec.upto fnCallBuiltinSpec)

end Rows
end Go.Proofs.Ytccofeljgfmplaa
