/- Contracts: Sorts. -/
import Derived.Test.YtpniplpnggddpaaGreatRows
import Derived.Test.YtpniplpnggddpaaGreatATy
import Derived.Test.YtpniplpnggddpaaGreatAbsTac
import Derived.Test.YtpniplpnggddpaaGreatAbsData
import Derived.Test.YtpniplpnggddpaaGreatAFam2
import Derived.Test.YtpniplpnggddpaaGreatASl
import Derived.WalkKit
import Derived.ProofKit
import Derived.OpenShut
namespace Go.Proofs.YtpniplpnggddpaaGreat.Mod
open Go.Proofs.Tryz Go.Abs Go.Proofs.YtpniplpnggddpaaGreat.Ty Go.ChangeShapes Go.WideShapes Go.ChangeAt Go.RowKit
set_option linter.unusedSimpArgs false
set_option linter.unusedVariables false
set_option maxHeartbeats 8000000
set_option maxRecDepth 100000
theorem c111 (l : List Int) (hl : l.length <= 16777216) : Ctr prog 111 [.one (.dat (.sl 1 (l.map encI)))] [] (.one (.own 0)) [.vec 1 true (l.map encI)] := by
 refine Ctr.bd mixed func111 rfl ?_
 refine evl ?_
 intro b hb
 constructor <;> intro h
 ·have : l = [] := by simpa using hb h
  subst this
  refine Fin.ent (Ent.emp (t := 2) (sz := 1) rfl) ?_
  refine evl ?_
  refine Fin.nt results111 [0] ?_ ?_ ?_ <;> try trivial
  all_goals exact entd
 ·refine ⟨by simp, ⟨by simp [encI, D.flat], by simp, by omega, by omega⟩, ?_⟩
  refine Fin.nt results111 [1] ?_ ?_ ?_ <;> try trivial
  all_goals exact entd
end Go.Proofs.YtpniplpnggddpaaGreat.Mod
