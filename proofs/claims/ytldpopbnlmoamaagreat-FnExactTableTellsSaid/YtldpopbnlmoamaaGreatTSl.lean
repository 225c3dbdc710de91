/- Contracts: Sl. -/
import Derived.Test.YtldpopbnlmoamaaGreatRows
import Derived.Test.YtldpopbnlmoamaaGreatTTy
import Derived.Test.YtldpopbnlmoamaaGreatAbsTac
import Derived.Test.YtldpopbnlmoamaaGreatAbsData
import Derived.Test.YtldpopbnlmoamaaGreatTFam
import Derived.WalkKit
import Derived.ProofKit
import Derived.OpenShut
namespace Go.Proofs.YtldpopbnlmoamaaGreat.Mod
open Go.Proofs.Tryz Go.Abs Go.Proofs.YtldpopbnlmoamaaGreat.Ty Go.ChangeShapes Go.WideShapes Go.ChangeAt Go.RowKit
set_option linter.unusedSimpArgs false
set_option linter.unusedVariables false
set_option maxHeartbeats 8000000
set_option maxRecDepth 100000
theorem c71 (l : List Cmd) (hl : l.length <= 16777216) : Ctr prog 71 [.one (.dat (.sl 3 (l.map encCmd)))] [] (.one (.own 0)) [.vec 3 true (l.map encCmd)] := by
 refine Ctr.bd mixed func71 rfl ?_
 refine evl ?_
 intro b hb
 constructor <;> intro h
 ·have : l = [] := by simpa using hb h
  subst this
  refine Fin.ent (Ent.emp (t := 2) (sz := 3) rfl) ?_
  refine evl ?_
  refine Fin.nt results71 [0] ?_ ?_ ?_ <;> try trivial
  all_goals exact entd
 ·refine ⟨by simp, ⟨by simp [encCmd, D.flat], by simp, by omega, by omega⟩, ?_⟩
  refine Fin.nt results71 [1] ?_ ?_ ?_ <;> try trivial
  all_goals exact entd
theorem c72 (l : List Res) (hl : l.length <= 16777216) : Ctr prog 72 [.one (.dat (.sl 2 (l.map encRes)))] [] (.one (.own 0)) [.vec 2 true (l.map encRes)] := by
 refine Ctr.bd mixed func72 rfl ?_
 refine evl ?_
 intro b hb
 constructor <;> intro h
 ·have : l = [] := by simpa using hb h
  subst this
  refine Fin.ent (Ent.emp (t := 2) (sz := 2) rfl) ?_
  refine evl ?_
  refine Fin.nt results72 [0] ?_ ?_ ?_ <;> try trivial
  all_goals exact entd
 ·refine ⟨by simp, ⟨by simp [encRes, D.flat], by simp, by omega, by omega⟩, ?_⟩
  refine Fin.nt results72 [1] ?_ ?_ ?_ <;> try trivial
  all_goals exact entd
end Go.Proofs.YtldpopbnlmoamaaGreat.Mod
