/- Valid terms as data. -/
import Derived.Test.YtcookjmgjbhkiaaGs3
namespace Go.AW
def ownOk (k n : Int) (s : ByteArray) (len : Int) : Bool :=
  cond (decide (k = 1)) (decide ((0 : Int) ≤ n) && decide (n ≤ 25) && decide (s = ⟨#[]⟩) && decide (len = 0))
    (cond (decide (k = 2)) (decide ((-999 : Int) ≤ n) && decide (n ≤ 999) && decide (s = ⟨#[]⟩) && decide (len = 0))
      (cond (decide (k = 3)) (decide (n = 0) && nameValid s && decide (len ≤ 4)) false))
mutual
/-- Well formed, down to a depth. -/
def Tm.shape : Tm → Int → Bool
  | .mk k n s ts, d => decide (1 ≤ d) && ownOk k n s ts.length && tmsShape ts (d - 1)
def tmsShape : List Tm → Int → Bool
  | [], _ => true
  | t :: ts, d => t.shape d && tmsShape ts d
end
theorem tmsShape_all : ∀ (ts : List Tm) (d : Int), tmsShape ts d = ts.all fun t => t.shape d
  | [], _ => rfl
  | t :: ts, d => by simp only [tmsShape, List.all_cons, tmsShape_all ts d]
theorem Tm.shape_mk (k n : Int) (s : ByteArray) (ts : List Tm) (d : Int) : (Tm.mk k n s ts).shape d = (decide (1 ≤ d) && ownOk k n s ts.length && ts.all fun t => t.shape (d - 1)) := by simp only [Tm.shape, tmsShape_all]
mutual
/-- The number of nodes. -/
def Tm.nodes : Tm → Nat
  | .mk _ _ _ ts => 1 + tmsNodes ts
def tmsNodes : List Tm → Nat
  | [] => 0
  | t :: ts => t.nodes + tmsNodes ts
end
theorem tmsNodes_sum : ∀ (ts : List Tm), tmsNodes ts = sumL Tm.nodes ts
  | [] => rfl
  | t :: ts => by simp only [tmsNodes, sumL, tmsNodes_sum ts]
theorem Tm.nodes_mk (k n : Int) (s : ByteArray) (ts : List Tm) : (Tm.mk k n s ts).nodes = 1 + sumL Tm.nodes ts := by simp only [Tm.nodes, tmsNodes_sum]
def Tm.valid (t : Tm) : Bool := t.shape 30 && decide (t.nodes ≤ 120)
end Go.AW
