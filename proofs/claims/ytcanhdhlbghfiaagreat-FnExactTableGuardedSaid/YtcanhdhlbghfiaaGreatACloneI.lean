/- Contracts: CloneI. -/
import Derived.Test.YtcanhdhlbghfiaaGreatRows
import Derived.Test.YtcanhdhlbghfiaaGreatATy
import Derived.Test.YtcanhdhlbghfiaaGreatAbsTac
import Derived.Test.YtcanhdhlbghfiaaGreatAbsData
import Derived.Test.YtcanhdhlbghfiaaGreatAFam2
import Derived.Test.YtcanhdhlbghfiaaGreatASl
import Derived.WalkKit
import Derived.ProofKit
import Derived.OpenShut
namespace Go.Proofs.YtcanhdhlbghfiaaGreat.Mod
open Go.Abs Go.Proofs.YtcanhdhlbghfiaaGreat.Ty Go.ChangeShapes Go.WideShapes Go.ChangeAt Go.RowKit
set_option linter.unusedSimpArgs false
set_option linter.unusedVariables false
set_option maxHeartbeats 8000000
set_option maxRecDepth 100000
theorem c218 (l : List Int) (hl : l.length ≤ 16777216) : Ctr Tryz.prog 218 [.one (.dat (.sl 1 (l.map encI)))] [] (.one (.own 0)) [.vec 1 true (l.map encI)] := by
 refine Ctr.bd mixed Tryz.func218 rfl ?_
 refine evl ?_
 intro b hb
 refine ⟨fun h => ?_, fun h => ?_⟩
 ·have : l = [] := by simpa using hb h
  subst this
  refine Fin.ent (Ent.emp (t := 2) (sz := 1) rfl) ?_
  refine evl ?_
  refine Fin.nt Tryz.results218 [0] ?_ ?_ ?_ <;> try trivial
  all_goals exact entd
 ·refine ⟨by simp, ⟨by simp [encI, D.flat], by simp, by omega, by omega⟩, ?_⟩
  refine Fin.nt Tryz.results218 [1] ?_ ?_ ?_ <;> try trivial
  all_goals exact entd
end Go.Proofs.YtcanhdhlbghfiaaGreat.Mod
