/- Contracts: Marks. -/
import Derived.Test.YtldpopbnlmoamaaGreatRows
import Derived.Test.YtldpopbnlmoamaaGreatTTy
import Derived.Test.YtldpopbnlmoamaaGreatAbsTac
import Derived.Test.YtldpopbnlmoamaaGreatAbsData
import Derived.Test.YtldpopbnlmoamaaGreatTFam3
import Derived.WalkKit
import Derived.ProofKit
import Derived.OpenShut
namespace Go.Proofs.YtldpopbnlmoamaaGreat.Mod
open Go.Proofs.Tryz Go.Abs Go.Proofs.YtldpopbnlmoamaaGreat.Ty Go.ChangeShapes Go.WideShapes Go.ChangeAt Go.RowKit
set_option linter.unusedSimpArgs false
set_option linter.unusedVariables false
set_option maxHeartbeats 8000000
set_option maxRecDepth 100000
def mrkSListS : Int -> List SList -> List (List D)
 | _, [] => []
 | k, x :: l => [.sl 1 (markInts k x.Slots.length)] :: mrkSListS (k + 1 * (x.Slots.length : Int)) l
theorem mrkSListS_len : ∀ (l : List SList) (k : Int), (mrkSListS k l).length = l.length
 | [], _ => rfl
 | x :: l, k => by rw [mrkSListS, List.length_cons, List.length_cons, mrkSListS_len l]
theorem markInts_len (k : Int) (n : Nat) : (markInts k n).length = n := by simp [markInts]
end Go.Proofs.YtldpopbnlmoamaaGreat.Mod
