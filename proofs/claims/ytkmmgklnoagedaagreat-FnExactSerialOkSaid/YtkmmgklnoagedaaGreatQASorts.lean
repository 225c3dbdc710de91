import Derived.Test.YtkmmgklnoagedaaGreatRows
import Derived.Test.YtkmmgklnoagedaaGreatQATy
import Derived.Test.YtkmmgklnoagedaaGreatQAbsTac
import Derived.Test.YtkmmgklnoagedaaGreatQAbsData
import Derived.Test.YtkmmgklnoagedaaGreatQAFam2
import Derived.Test.YtkmmgklnoagedaaGreatQAHist
import Derived.Test.YtkmmgklnoagedaaGreatQASl2
import Derived.Test.YtkmmgklnoagedaaGreatQAValid
import Derived.Test.YtkmmgklnoagedaaGreatQAbsEval
import Derived.Shelf.Sort.Plain
import Derived.Shelf.Slices.CompactI
import Derived.Shelf.Slices.In.SortNone
import Derived.Lib.RowBridge
import Derived.WalkKit
import Derived.ProofKit
import Derived.OpenShut
/- Contracts: Sorts. -/
namespace Go.Proofs.YtkmmgklnoagedaaGreat.Mod
open Go.Proofs.Tryz Go.Abs Go.Proofs.YtkmmgklnoagedaaGreat.Ty Go.ChangeShapes Go.WideShapes Go.ChangeAt Go.RowKit
set_option linter.unusedSimpArgs false
set_option linter.unusedVariables false
set_option maxHeartbeats 8000000
set_option maxRecDepth 100000
def encIL (x : List Int) : List D := [.sl 1 (x.map encI)]
def sumIL (xs : List (List Int)) : Nat := (xs.map List.length).sum
theorem cw (x : List Int) (xs : List (List Int)) : sumIL (x :: xs) = x.length + sumIL xs := by simp [sumIL]
end Go.Proofs.YtkmmgklnoagedaaGreat.Mod
