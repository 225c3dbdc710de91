/- Contracts: Hist. -/
import Derived.Test.YtcnddedeeplbcaaGreatRows
import Derived.Test.YtcnddedeeplbcaaGreatCTy
import Derived.Test.YtcnddedeeplbcaaGreatAbsTac
import Derived.Test.YtcnddedeeplbcaaGreatAbsData
import Derived.Test.YtcnddedeeplbcaaGreatCFam2
import Derived.Test.YtcnddedeeplbcaaGreatCNum
import Derived.Test.YtcnddedeeplbcaaGreatCSl2
import Derived.WalkKit
import Derived.ProofKit
import Derived.OpenShut
namespace Go.Proofs.YtcnddedeeplbcaaGreat.Mod
open Go.Proofs.Tryz Go.Abs Go.Proofs.YtcnddedeeplbcaaGreat.Ty Go.ChangeShapes Go.WideShapes Go.ChangeAt Go.RowKit
set_option linter.unusedSimpArgs false
set_option linter.unusedVariables false
set_option maxHeartbeats 8000000
set_option maxRecDepth 100000
theorem c133 (l:List Int) (hl:l.length <= maxLen) (x:Int):Ctr prog 133 [.one (.dat (.sl 1 (l.map encI))),.one (.dat (.int .i64 x))] [] (.one (.dat (.bool (l.any fun y=>y == x)))) []:=by
 refine Ctr.bd mixed func133 rfl ?_
 refine evl ?_
 refine LoopK_intro (fun zn zs=>∃ i:Nat,i <= l.length /\ zn=l.length - i /\ ((l.any fun y=>y == x)=((l.drop i).any fun y=>y == x)) /\ zs=mkSt [(5,.one (.dat (.int .i64 i))),(0,.one (.dat (.sl 1 (l.map encI)))),(1,.one (.dat (.int .i64 x)))] []) (l.length) _
  (Ent.wk []) ⟨0,by omega,by omega,by simp,rfl⟩ ?_
 rintro zn zs ⟨i,hi,rfl,hinv,rfl⟩ K hK
 rcases Nat.lt_or_ge i (l.length) with hlt | hge
 ·have hdi:decide ((i:Int) < ((l.length:Nat):Int))=true:=decide_eq_true (by omega)
  have hw:=wrap_succ hlt hl
  rw [List.drop_eq_getElem_cons hlt,List.any_cons] at hinv
  refine sv0 ?_
  refine scs ?_
  constructor <;> intro h
  ·apply hK
   refine evl ?_
   refine Fin.nt results133 [] ?_ ?_ ?_ <;> try trivial
   (refine rsl ?_;try exact .intro)
   rw [hinv,h,Bool.true_or]
  ·rw [h,Bool.false_or] at hinv
   (apply hK
    exact ⟨l.length - (i + 1),_,by omega,Ent.wk [],i + 1,by omega,rfl,hinv,rfl⟩)
 ·have hge':l.length=i:=by omega
  subst hge'
  have hdi:decide (((l.length:Nat):Int) < ((l.length:Nat):Int))=false:=by simp
  refine sv1 ?_
  apply hK
  refine evl ?_
  refine Fin.nt results133 [] ?_ ?_ ?_ <;> try trivial
  (refine rsl ?_;try exact .intro)
  rw [hinv];simp
end Go.Proofs.YtcnddedeeplbcaaGreat.Mod
