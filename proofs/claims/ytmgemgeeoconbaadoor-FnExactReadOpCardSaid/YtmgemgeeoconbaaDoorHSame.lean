/- Contracts: Same. -/
import Derived.Test.YtmgemgeeoconbaaDoorRows
import Derived.Test.YtmgemgeeoconbaaDoorHTy
import Derived.Test.YtmgemgeeoconbaaDoorAbsTac
import Derived.Test.YtmgemgeeoconbaaDoorAbsData
import Derived.Test.YtmgemgeeoconbaaDoorHFam
import Derived.Test.YtmgemgeeoconbaaDoorHFam2
import Derived.Test.YtmgemgeeoconbaaDoorHNum
import Derived.WalkKit
import Derived.ProofKit
import Derived.OpenShut
namespace Go.Proofs.YtmgemgeeoconbaaDoor.Mod
open Go.Proofs.Tryd Go.Abs Go.Proofs.YtmgemgeeoconbaaDoor.Ty Go.ChangeShapes Go.WideShapes Go.ChangeAt Go.RowKit
set_option linter.unusedSimpArgs false
set_option linter.unusedVariables false
set_option maxHeartbeats 8000000
set_option maxRecDepth 100000
def rowsOf (l : List LList) : List LRow := (l.map (·.Rows)).flatten
theorem rowsOf_drop {l : List LList} {i : Nat} (h : i < l.length) : rowsOf (l.drop i) = l[i].Rows ++ rowsOf (l.drop (i + 1)) := by
 unfold rowsOf
 rw [List.drop_eq_getElem_cons h, List.map_cons, List.flatten_cons]
theorem rowsOf_len (l : List LList) : (rowsOf l).length = (l.map sizLList).sum := by
 induction l with
 | nil => rfl
 | cons x l ih => simp only [rowsOf, List.map_cons, List.flatten_cons, List.length_append, List.sum_cons] at ih ⊢; rw [ih]; rfl
end Go.Proofs.YtmgemgeeoconbaaDoor.Mod
