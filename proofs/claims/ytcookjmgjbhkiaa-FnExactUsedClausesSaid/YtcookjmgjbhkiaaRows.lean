/-
  NARROWER THAN 'FOR EVERY INPUT', by the rows' own cells (each row's printed sentence says how): FnExactProofSame: loops · FnExactProofValid: loops · FnExactProofSize: loops · FnExactUsedClauses: loops · FnExactAnswerGoals: loops.
  DERIVED. THE GIVEN ROWS OF THIS SEAT. 5 by the template 'for every input the law returns true; each argument reads behind the call as it read before'; 0 by the template 'total and deterministic' (their statements: YtcookjmgjbhkiaaTotals.lean).
  GIVEN WITH THE SEED: the statements are not yours to turn. If you find one false, say at which input.
  Laid BY PROGRAM, IN A SANDBOX (cutbox-rows.mjs): the forced cells as the released guide's own fill.sh prints them over the translation eba99403af85d64e… (all of the seat's roots in one cut). By AI agents, Wed Nov 11 2026. No macro, syntax, notation, axiom, sorry.
-/
import Derived.Test.YtcookjmgjbhkiaaChecked
import GoSem.Claim
import GoSem.ClaimJoined
import GoSem.ClaimMapViews
import Derived.JoinedTies
import Derived.KernelRfl
namespace Go.Proofs.Ytcookjmgjbhkiaa
/- THE CELL 'sum', in the pinned program and in every row, IS THE sha256 OF THE DUMP (.gsa) THAT YtcookjmgjbhkiaaProg.lean LOADS. Nothing in Lean hashes anything: it is a label: what it is worth is what the hold of that sum in a sandbox is worth. -/
noncomputable def Try.pinned : Pinned := { name := "ytcookjmgjbhkiaa", sum := "eba99403af85d64eee6f67ede6ad92dffc635b0b753cf0b656335b0daaa6b98f", checked := Try.checked }
namespace Rows
def none {H : Type} : Left H := { results := [], args := [] }

/-- 'laws.FnExactProofSame': WHATEVER THE INPUT: true; the input reads as it did. -/
def fnExactProofSameSpec : ChangeSpec := { name := "fnExactProofSame", fn := fun _ => fun
  | [d1, d2] => { results := [.lit (.bool true)], args := [d1, d2] }
  | _ => none }
def fnExactProofSameRow : OpenClaim := { program := "ytcookjmgjbhkiaa", sum := "eba99403af85d64eee6f67ede6ad92dffc635b0b753cf0b656335b0daaa6b98f", func := "loop.example/prologserver/laws.FnExactProofSame", spec := "fnExactProofSame", unfollowed := true, recurses := true, loops := true, apart := false }
def FnExactProofSameSaid : Prop := fnExactProofSameRow.holds Try.pinned (OpenSpec.ofChange fnExactProofSameSpec)

/-- ITS FALSE NEIGHBOUR: 'it returns false'. Refute it at one input. -/
def fnExactProofSameWrong : ChangeSpec := { name := "fnExactProofSame", fn := fun _ => fun
  | [d1, d2] => { results := [.lit (.bool false)], args := [d1, d2] }
  | _ => none }
def FnExactProofSameWrongFalsely : Prop := fnExactProofSameRow.holds Try.pinned (OpenSpec.ofChange fnExactProofSameWrong)

/-- 'laws.FnExactProofValid': WHATEVER THE INPUT: true; the input reads as it did. -/
def fnExactProofValidSpec : ChangeSpec := { name := "fnExactProofValid", fn := fun _ => fun
  | [d] => { results := [.lit (.bool true)], args := [d] }
  | _ => none }
def fnExactProofValidRow : OpenClaim := { program := "ytcookjmgjbhkiaa", sum := "eba99403af85d64eee6f67ede6ad92dffc635b0b753cf0b656335b0daaa6b98f", func := "loop.example/prologserver/laws.FnExactProofValid", spec := "fnExactProofValid", unfollowed := true, recurses := true, loops := true, apart := false }
def FnExactProofValidSaid : Prop := fnExactProofValidRow.holds Try.pinned (OpenSpec.ofChange fnExactProofValidSpec)

/-- ITS FALSE NEIGHBOUR: 'it returns false'. Refute it at one input. -/
def fnExactProofValidWrong : ChangeSpec := { name := "fnExactProofValid", fn := fun _ => fun
  | [d] => { results := [.lit (.bool false)], args := [d] }
  | _ => none }
def FnExactProofValidWrongFalsely : Prop := fnExactProofValidRow.holds Try.pinned (OpenSpec.ofChange fnExactProofValidWrong)

/-- 'laws.FnExactProofSize': WHATEVER THE INPUT: true; the input reads as it did. -/
def fnExactProofSizeSpec : ChangeSpec := { name := "fnExactProofSize", fn := fun _ => fun
  | [d] => { results := [.lit (.bool true)], args := [d] }
  | _ => none }
def fnExactProofSizeRow : OpenClaim := { program := "ytcookjmgjbhkiaa", sum := "eba99403af85d64eee6f67ede6ad92dffc635b0b753cf0b656335b0daaa6b98f", func := "loop.example/prologserver/laws.FnExactProofSize", spec := "fnExactProofSize", unfollowed := true, recurses := true, loops := true, apart := false }
def FnExactProofSizeSaid : Prop := fnExactProofSizeRow.holds Try.pinned (OpenSpec.ofChange fnExactProofSizeSpec)

/-- ITS FALSE NEIGHBOUR: 'it returns false'. Refute it at one input. -/
def fnExactProofSizeWrong : ChangeSpec := { name := "fnExactProofSize", fn := fun _ => fun
  | [d] => { results := [.lit (.bool false)], args := [d] }
  | _ => none }
def FnExactProofSizeWrongFalsely : Prop := fnExactProofSizeRow.holds Try.pinned (OpenSpec.ofChange fnExactProofSizeWrong)

/-- 'laws.FnExactUsedClauses': WHATEVER THE INPUT: true; the input reads as it did. -/
def fnExactUsedClausesSpec : ChangeSpec := { name := "fnExactUsedClauses", fn := fun _ => fun
  | [d] => { results := [.lit (.bool true)], args := [d] }
  | _ => none }
def fnExactUsedClausesRow : OpenClaim := { program := "ytcookjmgjbhkiaa", sum := "eba99403af85d64eee6f67ede6ad92dffc635b0b753cf0b656335b0daaa6b98f", func := "loop.example/prologserver/laws.FnExactUsedClauses", spec := "fnExactUsedClauses", unfollowed := true, recurses := true, loops := true, apart := false }
def FnExactUsedClausesSaid : Prop := fnExactUsedClausesRow.holds Try.pinned (OpenSpec.ofChange fnExactUsedClausesSpec)

/-- ITS FALSE NEIGHBOUR: 'it returns false'. Refute it at one input. -/
def fnExactUsedClausesWrong : ChangeSpec := { name := "fnExactUsedClauses", fn := fun _ => fun
  | [d] => { results := [.lit (.bool false)], args := [d] }
  | _ => none }
def FnExactUsedClausesWrongFalsely : Prop := fnExactUsedClausesRow.holds Try.pinned (OpenSpec.ofChange fnExactUsedClausesWrong)

/-- 'laws.FnExactAnswerGoals': WHATEVER THE INPUT: true; the input reads as it did. -/
def fnExactAnswerGoalsSpec : ChangeSpec := { name := "fnExactAnswerGoals", fn := fun _ => fun
  | [d1, d2] => { results := [.lit (.bool true)], args := [d1, d2] }
  | _ => none }
def fnExactAnswerGoalsRow : OpenClaim := { program := "ytcookjmgjbhkiaa", sum := "eba99403af85d64eee6f67ede6ad92dffc635b0b753cf0b656335b0daaa6b98f", func := "loop.example/prologserver/laws.FnExactAnswerGoals", spec := "fnExactAnswerGoals", unfollowed := true, recurses := true, loops := true, apart := false }
def FnExactAnswerGoalsSaid : Prop := fnExactAnswerGoalsRow.holds Try.pinned (OpenSpec.ofChange fnExactAnswerGoalsSpec)

/-- ITS FALSE NEIGHBOUR: 'it returns false'. Refute it at one input. -/
def fnExactAnswerGoalsWrong : ChangeSpec := { name := "fnExactAnswerGoals", fn := fun _ => fun
  | [d1, d2] => { results := [.lit (.bool false)], args := [d1, d2] }
  | _ => none }
def FnExactAnswerGoalsWrongFalsely : Prop := fnExactAnswerGoalsRow.holds Try.pinned (OpenSpec.ofChange fnExactAnswerGoalsWrong)

/- THE SECOND FORM. 'bulk': how many values and letters a reading holds, each counted each time it is reached (what is shared counts as often as it is met; a slice's spare places count too). A statement '..UptoSaid' is the law's where the arguments, and the package variables that the reading takes, are together of bulk at most 1048576: NARROWER than '..Said'. Prove '..Said' where nothing that the law and all that it calls make is longer than what came in: it says more and counts as full. Else prove '..UptoSaid'. A law counts once. -/
mutual
def uptoBulk {H : Type} : DataW H → Nat
  | .lit (.string bytes) => bytes.length + 1
  | .lit _ => 1
  | .nil => 1
  | .ptr d => uptoBulk d + 1
  | .slice elems spare => uptoBulkAll elems + uptoBulkAll spare + 1
  | .agg parts => uptoBulkAll parts + 1
  | .iface _ d => uptoBulk d + 1
  | .map entries => uptoBulkEntries entries + 1
  | .held _ => 1
def uptoBulkAll {H : Type} : List (DataW H) → Nat
  | [] => 0
  | d :: r => uptoBulk d + uptoBulkAll r
def uptoBulkEntries {H : Type} : List (Lit × DataW H) → Nat
  | [] => 0
  | x :: r => uptoBulkEntry x + uptoBulkEntries r
def uptoBulkEntry {H : Type} : Lit × DataW H → Nat
  | (.string bytes, d) => bytes.length + uptoBulk d + 1
  | (_, d) => uptoBulk d + 1
 end
def uptoSmall : (H : Type) → List (DataW H) → Bool := fun _ ds => decide (uptoBulkAll ds ≤ 1048576)
def OpenSpec.upto (s : _root_.Go.ChangeSpec) : _root_.Go.OpenSpec := { _root_.Go.OpenSpec.ofChange s with cond := some uptoSmall }

/-- 'laws.FnExactProofSame', WHERE WHAT IT READS IS OF BULK AT MOST 1048576: true; the input reads as it did. -/
def fnExactProofSameUptoRow : OpenClaim := { program := "ytcookjmgjbhkiaa", sum := "eba99403af85d64eee6f67ede6ad92dffc635b0b753cf0b656335b0daaa6b98f", func := "loop.example/prologserver/laws.FnExactProofSame", spec := "fnExactProofSame", unfollowed := true, recurses := true, loops := true, apart := false, narrowed := true }
def FnExactProofSameUptoSaid : Prop := fnExactProofSameUptoRow.holds Try.pinned (OpenSpec.upto fnExactProofSameSpec)

/-- 'laws.FnExactProofValid', WHERE WHAT IT READS IS OF BULK AT MOST 1048576: true; the input reads as it did. -/
def fnExactProofValidUptoRow : OpenClaim := { program := "ytcookjmgjbhkiaa", sum := "eba99403af85d64eee6f67ede6ad92dffc635b0b753cf0b656335b0daaa6b98f", func := "loop.example/prologserver/laws.FnExactProofValid", spec := "fnExactProofValid", unfollowed := true, recurses := true, loops := true, apart := false, narrowed := true }
def FnExactProofValidUptoSaid : Prop := fnExactProofValidUptoRow.holds Try.pinned (OpenSpec.upto fnExactProofValidSpec)

/-- 'laws.FnExactProofSize', WHERE WHAT IT READS IS OF BULK AT MOST 1048576: true; the input reads as it did. -/
def fnExactProofSizeUptoRow : OpenClaim := { program := "ytcookjmgjbhkiaa", sum := "eba99403af85d64eee6f67ede6ad92dffc635b0b753cf0b656335b0daaa6b98f", func := "loop.example/prologserver/laws.FnExactProofSize", spec := "fnExactProofSize", unfollowed := true, recurses := true, loops := true, apart := false, narrowed := true }
def FnExactProofSizeUptoSaid : Prop := fnExactProofSizeUptoRow.holds Try.pinned (OpenSpec.upto fnExactProofSizeSpec)

/-- 'laws.FnExactUsedClauses', WHERE WHAT IT READS IS OF BULK AT MOST 1048576: true; the input reads as it did. -/
def fnExactUsedClausesUptoRow : OpenClaim := { program := "ytcookjmgjbhkiaa", sum := "eba99403af85d64eee6f67ede6ad92dffc635b0b753cf0b656335b0daaa6b98f", func := "loop.example/prologserver/laws.FnExactUsedClauses", spec := "fnExactUsedClauses", unfollowed := true, recurses := true, loops := true, apart := false, narrowed := true }
def FnExactUsedClausesUptoSaid : Prop := fnExactUsedClausesUptoRow.holds Try.pinned (OpenSpec.upto fnExactUsedClausesSpec)

/-- 'laws.FnExactAnswerGoals', WHERE WHAT IT READS IS OF BULK AT MOST 1048576: true; the input reads as it did. -/
def fnExactAnswerGoalsUptoRow : OpenClaim := { program := "ytcookjmgjbhkiaa", sum := "eba99403af85d64eee6f67ede6ad92dffc635b0b753cf0b656335b0daaa6b98f", func := "loop.example/prologserver/laws.FnExactAnswerGoals", spec := "fnExactAnswerGoals", unfollowed := true, recurses := true, loops := true, apart := false, narrowed := true }
def FnExactAnswerGoalsUptoSaid : Prop := fnExactAnswerGoalsUptoRow.holds Try.pinned (OpenSpec.upto fnExactAnswerGoalsSpec)

end Rows
end Go.Proofs.Ytcookjmgjbhkiaa
