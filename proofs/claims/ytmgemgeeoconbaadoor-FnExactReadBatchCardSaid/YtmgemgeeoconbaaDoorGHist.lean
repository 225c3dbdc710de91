/- Contracts: Hist. -/
import Derived.Test.YtmgemgeeoconbaaDoorRows
import Derived.Test.YtmgemgeeoconbaaDoorGTy
import Derived.Test.YtmgemgeeoconbaaDoorAbsTac
import Derived.Test.YtmgemgeeoconbaaDoorAbsData
import Derived.Test.YtmgemgeeoconbaaDoorGFam2
import Derived.Test.YtmgemgeeoconbaaDoorGNum
import Derived.Test.YtmgemgeeoconbaaDoorGSl2
import Derived.WalkKit
import Derived.ProofKit
import Derived.OpenShut
namespace Go.Proofs.YtmgemgeeoconbaaDoor.Mod
open Go.Proofs.Tryd Go.Abs Go.Proofs.YtmgemgeeoconbaaDoor.Ty Go.ChangeShapes Go.WideShapes Go.ChangeAt Go.RowKit
set_option linter.unusedSimpArgs false
set_option linter.unusedVariables false
set_option maxHeartbeats 8000000
set_option maxRecDepth 100000
def cmdOkC (c : Cmd) : Bool := cmdOk c.Kind c.Key c.Val
def batchOk (b : Batch) : Bool := bif b.Collect then ((b.Cmds.length : Int) == 0) else within b.Cmds.length 1 6 && b.Cmds.all cmdOkC
theorem c57 (x : Cmd) : Ctr prog 57 [.agg ((encCmd x).map .dat)] [] (.one (.dat (.bool (!cmdOkC x)))) [] := by
 simp only [encCmd, List.map_cons, List.map_nil]
 refine Ctr.bd mixed func57 rfl ?_
 refine evl ?_
 refine CallK_pure e32 (c32 ..) rfl ?_
 refine evl ?_
 refine Fin.nt results57 [] ?_ ?_ ?_ <;> try trivial
theorem c42 (b : Batch) (hl : b.Cmds.length <= maxLen) : Ctr prog 42 [.agg ((encBatch b).map .dat)] [] (.one (.dat (.bool (batchOk b)))) [] := by
 simp only [encBatch, List.map_cons, List.map_nil]
 refine Ctr.bd mixed func42 rfl ?_
 refine sv1 ?_
 constructor <;> intro h
 ·refine Fin.nt results42 [] ?_ ?_ ?_ <;> try trivial
  (refine rsl ?_; try exact .intro)
  simp only [batchOk, h, cond_true]
 refine ck e54 (c54 ..) rfl ?_
 refine sv1 ?_
 refine scs ?_
 refine ck e56 (c56_k0 b.Cmds hl e57 (fun x _ => c57 x)) rfl ?_
 refine sv1 ?_
 refine scs ?_
 refine Fin.nt results42 [] ?_ ?_ ?_ <;> try trivial
 (refine rsl ?_; try exact .intro)
 simp only [batchOk, h, cond_false, <- any_not_all]
 cases within b.Cmds.length 1 6 <;> rfl
theorem c40 (b : Batch) (hl : b.Cmds.length <= maxLen) : Ctr prog 40 [.agg ((encBatch b).map .dat)] [] (.one (.dat (.bool (batchOk b)))) [] := by
 simp only [encBatch, List.map_cons, List.map_nil]
 refine Ctr.bd mixed func40 rfl ?_
 refine sv1 ?_
 refine ⟨fun h => ?_, fun hc => ?_⟩
 ·refine Fin.nt results40 [] ?_ ?_ ?_ <;> try trivial
  (refine rsl ?_; try exact .intro)
  simp only [batchOk, h, cond_true]
 refine LoopK_intro (fun zn zs => ∃ i : Nat, i <= b.Cmds.length /\ zn = b.Cmds.length - i /\ (b.Cmds.all cmdOkC = (b.Cmds.drop i).all cmdOkC) /\ zs = mkSt [(3, .one (.dat (.int .i64 i))), (1, .one (.ptr (.own 0 0 0)))] [.box [.dat (.bool b.Collect), .dat (.sl 3 (b.Cmds.map encCmd))]]) (b.Cmds.length) _
  (Ent.wk [0]) ⟨0, by omega, by omega, by simp, rfl⟩ ?_
 rintro zn zs ⟨i, hi, rfl, hinv, rfl⟩ K hK
 rcases Nat.lt_or_ge i (b.Cmds.length) with hlt | hge
 ·have hdi : decide ((i : Int) < ((b.Cmds.length : Nat) : Int)) = true := decide_eq_true (by omega)
  have hw := wrap_succ hlt hl
  rw [List.drop_eq_getElem_cons hlt, List.all_cons] at hinv
  simp (maxSteps := 2000000) only [go_sem, seval, hdi, hw, getD_map hlt, encCmd]
  refine scs ?_
  refine ck e30 (c30 ..) rfl ?_
  refine sv0 ?_
  constructor <;> intro h
  ·have h' : cmdOkC b.Cmds[i] = false := by simpa [cmdOkC] using h
   rw [h', Bool.false_and] at hinv
   apply hK
   refine evl ?_
   refine Fin.nt results40 [] ?_ ?_ ?_ <;> try trivial
   (refine rsl ?_; try exact .intro)
   simp [batchOk, hc, hinv]
  ·have h' : cmdOkC b.Cmds[i] = true := by simpa [cmdOkC] using h
   rw [h', Bool.true_and] at hinv
   (apply hK
    exact ⟨b.Cmds.length - (i + 1), _, by omega, Ent.wk [0], i + 1, by omega, rfl, hinv, rfl⟩)
 ·have hge' : b.Cmds.length = i := by omega
  subst hge'
  have hdi : decide (((b.Cmds.length : Nat) : Int) < ((b.Cmds.length : Nat) : Int)) = false := by simp
  rw [List.drop_length, List.all_nil] at hinv
  refine sv2 ?_
  apply hK
  refine sv1 ?_
  refine ck e53 (c53 ..) rfl ?_
  refine evl ?_
  refine Fin.nt results40 [] ?_ ?_ ?_ <;> try trivial
  (refine rsl ?_; try exact .intro)
  simp [batchOk, hc, hinv]
end Go.Proofs.YtmgemgeeoconbaaDoor.Mod
