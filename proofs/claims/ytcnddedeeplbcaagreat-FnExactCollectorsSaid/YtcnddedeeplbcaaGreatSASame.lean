import Derived.Test.YtcnddedeeplbcaaGreatRows
import Derived.Test.YtcnddedeeplbcaaGreatSATy
import Derived.Test.YtcnddedeeplbcaaGreatSAbsTac
import Derived.Test.YtcnddedeeplbcaaGreatSAbsData
import Derived.Test.YtcnddedeeplbcaaGreatSAFam3
import Derived.Test.YtcnddedeeplbcaaGreatSANum
import Derived.Test.YtcnddedeeplbcaaGreatSASl2
import Derived.WalkKit
import Derived.ProofKit
import Derived.OpenShut
/- Contracts: Same. -/
namespace Go.Proofs.YtcnddedeeplbcaaGreat.Mod
open Go.Proofs.Tryz Go.Abs Go.Proofs.YtcnddedeeplbcaaGreat.Ty Go.ChangeShapes Go.WideShapes Go.ChangeAt Go.RowKit
set_option linter.unusedSimpArgs false
set_option linter.unusedVariables false
set_option maxHeartbeats 8000000
set_option maxRecDepth 100000
def rowsOf (l:List LList):List LRow:=(l.map (·.Rows)).flatten
theorem rowsOf_drop {l:List LList} {i:Nat} (h:i < l.length):rowsOf (l.drop i)=l[i].Rows ++ rowsOf (l.drop (i + 1)):=by
 unfold rowsOf
 rw [List.drop_eq_getElem_cons h,List.map_cons,List.flatten_cons]
theorem rowsOf_len (l:List LList):(rowsOf l).length=(l.map sizLList).sum:=by
 induction l with
 | nil=>rfl
 | cons x l ih=>simp only [rowsOf,List.map_cons,List.flatten_cons,List.length_append,List.sum_cons] at ih ⊢;rw [ih];rfl
theorem c224 (L:List LList) (hl1:L.length <= 1048576) (hl2:(rowsOf L).length <= 1048576):Ctr prog 224 [.one (.dat (.sl 1 (L.map encLList)))] [] (.one (.own 0)) [.vec 2 true ((rowsOf L).map encLRow)]:=by
 have hmx:maxLen=9223372036854775807:=rfl
 refine Ctr.bd mixed func224 rfl ?_
 refine sv17 ?_
 refine scs ?_
 refine LoopK_intro (fun zn zs=>∃ (i:Nat) (o:List LRow),i <= L.length /\ zn=L.length - i /\ (rowsOf L=o ++ rowsOf (L.drop i)) /\ zs=mkSt [(4,.one (.dat (.int .i64 i))),(3,.one (.own 0)),(0,.one (.dat (.sl 1 (L.map encLList))))] [.vec 2 true (o.map encLRow)]) (L.length) _
  (Ent.wk [0]) ⟨0,[],by omega,by omega,rfl,rfl⟩ ?_
 rintro zn zs ⟨i,o,hi,rfl,hinv,rfl⟩ K hK
 rcases Nat.lt_or_ge i (L.length) with hlt | hge
 ·have hdi:decide ((i:Int) < ((L.length:Nat):Int))=true:=decide_eq_true (by omega)
  have hw:=wrap_succ hlt (show L.length <= maxLen by omega)
  rw [rowsOf_drop hlt] at hinv
  have hlen:o.length + L[i].Rows.length <= 1048576:=by
   have:=congrArg List.length hinv
   simp only [List.length_append] at this
   omega
  simp (maxSteps:=2000000) only [go_sem,seval,hdi,hw,getD_map hlt,encLList]
  have hfl:∀ r ∈ L[i].Rows.map encLRow,∀ d ∈ r,d.flat=true:=by
   intro r hr d hd
   obtain ⟨y,_,rfl⟩:=List.mem_map.1 hr
   simp only [encLRow,List.mem_cons,List.not_mem_nil,or_false] at hd
   rcases hd with rfl | rfl <;> rfl
  refine scs ?_
  (apply hK
   exact ⟨L.length - (i + 1),_,by omega,Ent.wk [1],i + 1,(o ++ L[i].Rows),by omega,rfl,by rw [List.append_assoc];exact hinv,rfl⟩)
 ·have hge':L.length=i:=by omega
  subst hge'
  have hdi:decide (((L.length:Nat):Int) < ((L.length:Nat):Int))=false:=by simp
  have hre:rowsOf L=o:=by rw [hinv,List.drop_length];simp [rowsOf]
  clear hinv
  refine sv4 ?_
  apply hK
  refine evl ?_
  rw [hre]
  refine Fin.nt results224 [0] ?_ ?_ ?_ <;> try trivial
  all_goals exact entd
end Go.Proofs.YtcnddedeeplbcaaGreat.Mod
