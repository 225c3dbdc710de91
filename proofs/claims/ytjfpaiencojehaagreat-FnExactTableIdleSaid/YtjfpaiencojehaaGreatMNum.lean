/- Contracts: Num. -/
import Derived.Test.YtjfpaiencojehaaGreatRows
import Derived.Test.YtjfpaiencojehaaGreatTy
import Derived.Test.YtjfpaiencojehaaGreatAbsTac
import Derived.Test.YtjfpaiencojehaaGreatAbsData
import Derived.Test.YtjfpaiencojehaaGreatMBase
import Derived.WalkKit
import Derived.ProofKit
import Derived.OpenShut
namespace Go.Proofs.YtjfpaiencojehaaGreat.Mod
open Go.Abs Go.Proofs.YtjfpaiencojehaaGreat.Ty Go.ChangeShapes Go.WideShapes Go.ChangeAt Go.RowKit
set_option linter.unusedSimpArgs false
set_option linter.unusedVariables false
set_option maxHeartbeats 8000000
set_option maxRecDepth 100000
def within (x lo hi : Int) : Bool := decide (lo ≤ x ∧ x ≤ hi)
theorem within_and (x lo hi : Int) : (bif decide (lo ≤ x) then decide (x ≤ hi) else false) = within x lo hi := by simp [within, Bool.decide_and]
def handleOk (x : Int) : Bool := within x 32 223 && decide (x % 32 < 24)
def isLink (x : Int) : Bool := x == 0 || handleOk x
theorem handle_and (x : Int) : (bif within x 32 223 then decide (x.tmod 32 < 24) else false) = handleOk x := by
  unfold handleOk within
  by_cases h : 32 ≤ x
  · rw [Int.tmod_eq_emod_of_nonneg (by omega)]; simp
  · simp [h]
def bktOk (x y z : Int) : Bool := isLink x && within y 0 1000000 && within z 0 3
def nodeOk (x y z : Int) : Bool := within x 0 99 && within y 0 65535 && isLink z
def cmdOk (k x v : Int) : Bool := within k 1 4 && within x 0 99 && ((k == 2 || k == 4) && within v 0 65535 || v == 0)
end Go.Proofs.YtjfpaiencojehaaGreat.Mod
