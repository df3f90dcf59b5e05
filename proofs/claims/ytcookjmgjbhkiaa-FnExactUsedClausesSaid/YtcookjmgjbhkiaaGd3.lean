/- Valid proofs as data. -/
import Derived.Test.YtcookjmgjbhkiaaGs8
namespace Go.AW
def nodeOk (g : Tm) (c : Int) (len : Int) : Bool := g.goal && decide ((-1 : Int) ≤ c) && decide (c ≤ 19) && decide (len ≤ 6)
mutual
/-- Well formed, down to a depth. -/
def Pf.shape : Pf → Int → Bool
  | .mk g c ps, d => decide (1 ≤ d) && nodeOk g c ps.length && pfsShape ps (d - 1)
def pfsShape : List Pf → Int → Bool
  | [], _ => true
  | t :: ts, d => t.shape d && pfsShape ts d
end
theorem pfsShape_all : ∀ (ts : List Pf) (d : Int), pfsShape ts d = ts.all fun t => t.shape d
  | [], _ => rfl
  | t :: ts, d => by simp only [pfsShape, List.all_cons, pfsShape_all ts d]
theorem Pf.shape_mk (g : Tm) (c : Int) (ps : List Pf) (d : Int) : (Pf.mk g c ps).shape d = (decide (1 ≤ d) && nodeOk g c ps.length && ps.all fun t => t.shape (d - 1)) := by simp only [Pf.shape, pfsShape_all]
mutual
/-- The number of nodes. -/
def Pf.nodes : Pf → Nat
  | .mk _ _ ps => 1 + pfsNodes ps
def pfsNodes : List Pf → Nat
  | [] => 0
  | t :: ts => t.nodes + pfsNodes ts
end
theorem pfsNodes_sum : ∀ (ts : List Pf), pfsNodes ts = sumL Pf.nodes ts
  | [] => rfl
  | t :: ts => by simp only [pfsNodes, sumL, pfsNodes_sum ts]
theorem Pf.nodes_mk (g : Tm) (c : Int) (ps : List Pf) : (Pf.mk g c ps).nodes = 1 + sumL Pf.nodes ps := by simp only [Pf.nodes, pfsNodes_sum]
def Pf.valid (t : Pf) : Bool := t.shape 20 && decide (t.nodes ≤ 60)
end Go.AW
