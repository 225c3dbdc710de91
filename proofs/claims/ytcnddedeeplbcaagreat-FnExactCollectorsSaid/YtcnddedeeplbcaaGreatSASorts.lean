import Derived.Test.YtcnddedeeplbcaaGreatRows
import Derived.Test.YtcnddedeeplbcaaGreatSATy
import Derived.Test.YtcnddedeeplbcaaGreatSAbsTac
import Derived.Test.YtcnddedeeplbcaaGreatSAbsData
import Derived.Test.YtcnddedeeplbcaaGreatSAFam2
import Derived.Test.YtcnddedeeplbcaaGreatSASl2
import Derived.WalkKit
import Derived.ProofKit
import Derived.OpenShut
/- Contracts: Sorts. -/
namespace Go.Proofs.YtcnddedeeplbcaaGreat.Mod
open Go.Proofs.Tryz Go.Abs Go.Proofs.YtcnddedeeplbcaaGreat.Ty Go.ChangeShapes Go.WideShapes Go.ChangeAt Go.RowKit
set_option linter.unusedSimpArgs false
set_option linter.unusedVariables false
set_option maxHeartbeats 8000000
set_option maxRecDepth 100000
theorem c157 (l:List Int) (hl:l.length <= 16777216):Ctr prog 157 [.one (.dat (.sl 1 (l.map encI)))] [] (.one (.own 0)) [.vec 1 true (l.map encI)]:=by
 refine Ctr.bd mixed func157 rfl ?_
 refine evl ?_
 intro b hb
 constructor <;> intro h
 ·have:l=[]:=by simpa using hb h
  subst this
  refine Fin.ent (Ent.emp (t:=2) (sz:=1) rfl) ?_
  refine evl ?_
  refine Fin.nt results157 [0] ?_ ?_ ?_ <;> try trivial
  all_goals exact entd
 ·refine ⟨by simp,⟨by simp [encI,D.flat],by simp,by omega,by omega⟩,?_⟩
  refine Fin.nt results157 [1] ?_ ?_ ?_ <;> try trivial
  all_goals exact entd
end Go.Proofs.YtcnddedeeplbcaaGreat.Mod
