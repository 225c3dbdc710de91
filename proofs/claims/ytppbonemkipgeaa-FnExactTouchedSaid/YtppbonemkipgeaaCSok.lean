/- Contracts: Sok. -/
import Derived.Test.YtppbonemkipgeaaRows
import Derived.Test.YtppbonemkipgeaaCTy
import Derived.Test.YtppbonemkipgeaaAbsTac
import Derived.Test.YtppbonemkipgeaaAbsData
import Derived.Test.YtppbonemkipgeaaCFam2
import Derived.WalkKit
import Derived.ProofKit
import Derived.OpenShut
namespace Go.Proofs.Ytppbonemkipgeaa.Mod
open Go.Proofs.Try Go.Abs Go.Proofs.Ytppbonemkipgeaa.Ty Go.ChangeShapes Go.WideShapes Go.ChangeAt Go.RowKit
set_option linter.unusedSimpArgs false
set_option linter.unusedVariables false
set_option maxHeartbeats 8000000
set_option maxRecDepth 100000
def markInts (k : Int) (n : Nat) : List (List D) := (List.range n).map fun i => encI (k + 1 * (i : Nat))
theorem drop_mid {α : Type} {A B : List α} {i : Nat} {x : α} (h : A.length = i) : (A ++ x :: B).drop (i + 1) = B := by
 subst h; rw [List.drop_append]; simp
end Go.Proofs.Ytppbonemkipgeaa.Mod
