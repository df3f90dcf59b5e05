/- Regions that draw their order: what leaves the owned store alone may come in any order. -/
import Derived.Test.YtaifeijnedoboaaCbFina
namespace Go.AW

section
variable {P : Program} {st : Store}

/-- The operation comes to r, and leaves the owned store as it was. -/
def aYield (P : Program) (st : Store) (ops : Array Oper) (o : Oper) (r : AV) (φ : AF) : Prop :=
  (aGuard ops φ o = some true ∧ aStep P [] φ st o (fun r' st' => r' = r ∧ st' = st)) ∨ (aGuard ops φ o = some false ∧ r = .undef)

/-- Any order, of the first n operations; L says what is to hold when they are done. -/
def aAnyL (P : Program) (st : Store) (ops : Array Oper) (n : Nat) (L : Array Bool → AF → Prop) : Nat → Array Bool → AF → Prop
  | 0, listed, φ => L listed φ
  | f + 1, listed, φ => Region.ready .any ops listed ≠ [] ∧ ∀ i ∈ Region.ready .any ops listed, i < n ∧ ∃ o, ops[i]? = some o ∧ ∃ r, aYield P st ops o r φ ∧ aAnyL P st ops n L f (listed.setIfInBounds i true) (φ.put o.dst r)

/-- The first n operations in the text's order: each leaves the owned store alone. -/
def aHead (P : Program) (st : Store) (ops : Array Oper) : List Oper → (AF → Prop) → AF → Prop
  | [], K, φ => K φ
  | o :: rest, K, φ => match aGuard ops φ o with
    | some true => ∃ r, aStep P [] φ st o (fun r' st' => r' = r ∧ st' = st) ∧ aHead P st ops rest K (φ.put o.dst r)
    | some false => aHead P st ops rest K (φ.put o.dst .undef)
    | none => False

/-! ### All of a region leaves the owned store alone -/
def aAnyQ (P : Program) (st : Store) (ops : Array Oper) (K : AF → Prop) : Nat → Array Bool → AF → Prop
  | 0, listed, φ => Region.ready .any ops listed = [] ∧ K φ
  | f + 1, listed, φ => (Region.ready .any ops listed = [] → K φ) ∧ ∀ i ∈ Region.ready .any ops listed, ∃ o, ops[i]? = some o ∧ ∃ r, aYield P st ops o r φ ∧ aAnyQ P st ops K f (listed.setIfInBounds i true) (φ.put o.dst r)

end
end Go.AW
