/-
  What makes a shape valid. (The walks of impl.isShape, spec.validShape are still to be done.)
-/
import Derived.Test.YtchiakeceiefdaaShape
import Derived.Test.YtchiakeceiefdaaSpecValid
namespace Go.Proofs.Ytchiakeceiefdaa
open Go.RowKit

/-- The cells of a shape. -/
def shapeL' (n : Shp) (na : Option Addr) (nc : Nat) (ba : Option Addr) (bc : Nat) (ka : Option Addr) (kc : Nat) : List Value :=
  [.int .i64 n.kind, .slice na n.names.length nc, .slice ba n.needs.length bc, .slice ka n.kids.length kc]

/-- The head of a shape: kind, names, lengths. -/
def shpHead (x : Shp) : Bool :=
  inR x.kind 0 4 && areNamesB x.names && !(decide (0 < x.names.length) && decide (x.kind ≠ 4)) && decide (x.needs.length = x.names.length) && decide (x.kids.length = x.names.length)

mutual
def shpB : Shp → Nat → Bool
  | ⟨kind, names, needs, kids⟩, d => decide (0 < d) && shpHead ⟨kind, names, needs, kids⟩ && shpL kids (d - 1)
def shpL : List Shp → Nat → Bool
  | [], _ => true
  | k :: ks, d => shpB k d && shpL ks d
end

theorem shpB_eq (x : Shp) (d : Nat) : shpB x d = (decide (0 < d) && shpHead x && shpL x.kids (d - 1)) := by cases x; simp [shpB]
theorem shpL_all (l : List Shp) (d : Nat) : shpL l d = l.all fun k => shpB k d := by
  induction l with
  | nil => simp [shpL]
  | cons a l ih => simp [shpL, ih]

end Go.Proofs.Ytchiakeceiefdaa
