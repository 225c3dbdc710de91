/- Contracts: Hist. -/
import Derived.Test.YtebinioiggfplaaGreatRows
import Derived.Test.YtebinioiggfplaaGreatBTy
import Derived.Test.YtebinioiggfplaaGreatAbsTac
import Derived.Test.YtebinioiggfplaaGreatAbsData
import Derived.Test.YtebinioiggfplaaGreatBFam2
import Derived.Test.YtebinioiggfplaaGreatBNum
import Derived.Test.YtebinioiggfplaaGreatBSl
import Derived.Test.YtebinioiggfplaaGreatBSl2
import Derived.WalkKit
import Derived.ProofKit
import Derived.OpenShut
namespace Go.Proofs.YtebinioiggfplaaGreat.Mod
open Go.Proofs.Tryz Go.Abs Go.Proofs.YtebinioiggfplaaGreat.Ty Go.ChangeShapes Go.WideShapes Go.ChangeAt Go.RowKit
set_option linter.unusedSimpArgs false
set_option linter.unusedVariables false
set_option maxHeartbeats 8000000
set_option maxRecDepth 100000
def cmdOkC (c : Cmd) : Bool := cmdOk c.Kind c.Key c.Val
def batchOk (b : Batch) : Bool := bif b.Collect then ((b.Cmds.length : Int) == 0) else within b.Cmds.length 1 6 && b.Cmds.all cmdOkC
theorem c180 (l : List Int) (hl : l.length <= maxLen) (x : Int) : Ctr prog 180 [.one (.dat (.sl 1 (l.map encI))), .one (.dat (.int .i64 x))] [] (.one (.dat (.bool (l.any fun y => y == x)))) [] := by
 refine Ctr.bd mixed func180 rfl ?_
 refine evl ?_
 refine LoopK_intro (fun zn zs => ∃ i : Nat, i <= l.length /\ zn = l.length - i /\ ((l.any fun y => y == x) = ((l.drop i).any fun y => y == x)) /\ zs = mkSt [(5, .one (.dat (.int .i64 i))), (0, .one (.dat (.sl 1 (l.map encI)))), (1, .one (.dat (.int .i64 x)))] []) (l.length) _
  (Ent.wk []) ⟨0, by omega, by omega, by simp, rfl⟩ ?_
 rintro zn zs ⟨i, hi, rfl, hinv, rfl⟩ K hK
 rcases Nat.lt_or_ge i (l.length) with hlt | hge
 ·have hdi : decide ((i : Int) < ((l.length : Nat) : Int)) = true := decide_eq_true (by omega)
  have hw := wrap_succ hlt hl
  rw [List.drop_eq_getElem_cons hlt, List.any_cons] at hinv
  refine sv10 ?_
  refine scs ?_
  constructor <;> intro h
  ·apply hK
   refine evl ?_
   refine Fin.nt results180 [] ?_ ?_ ?_ <;> try trivial
   (refine rsl ?_; try exact .intro)
   rw [hinv, h, Bool.true_or]
  ·rw [h, Bool.false_or] at hinv
   (apply hK
    exact ⟨l.length - (i + 1), _, by omega, Ent.wk [], i + 1, by omega, rfl, hinv, rfl⟩)
 ·have hge' : l.length = i := by omega
  subst hge'
  have hdi : decide (((l.length : Nat) : Int) < ((l.length : Nat) : Int)) = false := by simp
  refine sv3 ?_
  apply hK
  refine evl ?_
  refine Fin.nt results180 [] ?_ ?_ ?_ <;> try trivial
  (refine rsl ?_; try exact .intro)
  rw [hinv]; simp
end Go.Proofs.YtebinioiggfplaaGreat.Mod
