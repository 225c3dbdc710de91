/- Contracts: Valid. -/
import Derived.Test.YtppbonemkipgeaaRows
import Derived.Test.YtppbonemkipgeaaCTy
import Derived.Test.YtppbonemkipgeaaAbsTac
import Derived.Test.YtppbonemkipgeaaAbsData
import Derived.Test.YtppbonemkipgeaaCFam
import Derived.Test.YtppbonemkipgeaaCFam2
import Derived.Test.YtppbonemkipgeaaCNum
import Derived.Test.YtppbonemkipgeaaCSok
import Derived.WalkKit
import Derived.ProofKit
import Derived.OpenShut
namespace Go.Proofs.Ytppbonemkipgeaa.Mod
open Go.Proofs.Try Go.Abs Go.Proofs.Ytppbonemkipgeaa.Ty Go.ChangeShapes Go.WideShapes Go.ChangeAt Go.RowKit
set_option linter.unusedSimpArgs false
set_option linter.unusedVariables false
set_option maxHeartbeats 8000000
set_option maxRecDepth 100000
theorem take_split {α : Type} {l : List α} {i : Nat} {x : α} (h : i < l.length) (e : l[i] = x) : l = l.take i ++ x :: l.drop (i + 1) := by rw [<- e, <- List.drop_eq_getElem_cons h, List.take_append_drop]
theorem encI_fold (z : Int) : ([D.int .i64 z] : List D) = encI z := rfl
theorem ibeq (a b : Int) : (a == b) = decide (a = b) := by by_cases h : a = b <;> simp [h]
def pinOk (e : Int) (p : Pin) : Bool := within p.Epoch 0 e && (within p.Seen 0 2 && (p.On || decide (p = ⟨false, 0, false, 0⟩)))
def clockOk (c : Clock) : Bool := within c.Epoch 0 100000 && decide ((c.Pins.length : Int) = 3) && c.Pins.all (pinOk c.Epoch)
end Go.Proofs.Ytppbonemkipgeaa.Mod
