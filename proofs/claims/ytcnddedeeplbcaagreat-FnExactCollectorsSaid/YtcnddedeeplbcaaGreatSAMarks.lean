import Derived.Test.YtcnddedeeplbcaaGreatRows
import Derived.Test.YtcnddedeeplbcaaGreatSATy
import Derived.Test.YtcnddedeeplbcaaGreatSAbsTac
import Derived.Test.YtcnddedeeplbcaaGreatSAbsData
import Derived.Test.YtcnddedeeplbcaaGreatSAFam3
import Derived.WalkKit
import Derived.ProofKit
import Derived.OpenShut
/- Contracts: Marks. -/
namespace Go.Proofs.YtcnddedeeplbcaaGreat.Mod
open Go.Proofs.Tryz Go.Abs Go.Proofs.YtcnddedeeplbcaaGreat.Ty Go.ChangeShapes Go.WideShapes Go.ChangeAt Go.RowKit
set_option linter.unusedSimpArgs false
set_option linter.unusedVariables false
set_option maxHeartbeats 8000000
set_option maxRecDepth 100000
def mrkSListS:Int -> List SList -> List (List D)
 | _,[]=>[]
 | k,x :: l=>[.sl 1 (markInts k x.Slots.length)] :: mrkSListS (k + 1 * (x.Slots.length:Int)) l
theorem mrkSListS_len:∀ (l:List SList) (k:Int),(mrkSListS k l).length=l.length
 | [],_=>rfl
 | x :: l,k=>by rw [mrkSListS,List.length_cons,List.length_cons,mrkSListS_len l]
theorem markInts_len (k:Int) (n:Nat):(markInts k n).length=n:=by simp [markInts]
theorem c91_e (l:List Int) (k:Int) (hk0:0 <= k) (hk:k + 1 * l.length <= 4611686018427387904):Ctr prog 91 [.one (.own 0),.one (.dat (.int .i64 k))] [lent 1 (l.map encI)] (.one (.dat (.int .i64 (k + 1 * l.length)))) [lent 1 (markInts k l.length)]:=by
 exact c91 l k hk0 hk
theorem c303_e (l:List SList) (hl:l.length <= 1048576) (hq:∀ x ∈ l,x.sok) (k:Int) (hk0:0 <= k) (hk:k + (cntSListS l:Int) <= 4611686018427387904):Ctr prog 303 [.one (.own 0),.one (.dat (.int .i64 k))] [.vec 1 true (l.map encSList)] (.one (.dat (.int .i64 (k + (cntSListS l:Int))))) [.vec 1 true (mrkSListS k l)]:=by
 refine Ctr.of_body mixed func303 rfl (by kernel_rfl) (Nat.le_of_ble_eq_true rfl) (by simp [AV.Clean,AV.Clean1,Leaf.Clean,D.flat]) (by simp [AObj.Sep]) (by simp) ?_ (by simp [AV.Low,AV.Low1,Leaf.Low]) ?_
 ·intro o ho
  have:o=0:=by simpa using ho
  subst this
  simp [Objs,Compat,mrkSListS_len]
 show wpA _ _ _ (FinQ _ _ _ _ _) _
 refine evl ?_
 refine LoopK_intro (fun zn zs=>∃ (i:Nat) (A:List (List D)) (kk:Int),i <= l.length /\ zn=l.length - i /\ (A.length=i /\ mrkSListS k l=A ++ mrkSListS kk (l.drop i) /\ 0 <= kk /\ kk + (cntSListS (l.drop i):Int)=k + (cntSListS l:Int)) /\ zs=mkSt [(5,.one (.dat (.int .i64 i))),(1,.one (.dat (.int .i64 kk))),(0,.one (.own 0))] [.vec 1 true (A ++ (l.drop i).map encSList)]) l.length _
  (Ent.wk [0]) ⟨0,[],k,by omega,by omega,⟨rfl,rfl,hk0,rfl⟩,rfl⟩ ?_
 rintro zn zs ⟨i,A,kk,hi,rfl,⟨hA,hR2,hk1,hk2⟩,rfl⟩ K hK
 rcases Nat.lt_or_ge i l.length with hlt | hge
 ·have hd:decide ((i:Int) < ((l.length:Nat):Int))=true:=decide_eq_true (by omega)
  have hw:=wrap_succ hlt (show l.length <= maxLen by unfold maxLen;omega)
  have hqx:=hq l[i] (List.getElem_mem hlt)
  rw [List.drop_eq_getElem_cons hlt] at hk2 hR2 ⊢
  rw [List.map_cons]
  generalize l[i]=x at hk2 hR2 hqx ⊢
  obtain ⟨q0,_⟩:=hqx
  rw [cntSListS_cons] at hk2
  rw [mrkSListS] at hR2
  have hcx:cntSList x=1 * x.Slots.length:=rfl
  have hBl:((l.drop (i + 1)).map encSList).length=l.length - (i + 1):=by simp
  have hl1:∀ y,(A ++ y :: (l.drop (i + 1)).map encSList).length=l.length:=fun y=>by rw [List.length_append,List.length_cons,hBl];omega
  refine sv6 ?_
  refine scs ?_
  intro v0
  try (refine sv6 ?_)
  refine scs ?_
  refine CallK_os [1] e91 (by simp [osOk,St.obj,find]) (c91_e x.Slots kk (by omega) (by omega)) rfl ?_
  refine sv6 ?_
  refine scs ?_
  apply hK
  refine ⟨l.length - (i + 1),_,by omega,Ent.trans (Ent.closeL (k:=0) (n:=1) (p:=2) (i:=i) (j:=0) (v:=v0) (s2:=1) (rs:=markInts kk x.Slots.length) rfl (by rw [hl1];exact hlt) Nat.zero_lt_one (by rw [getD_mid hA];rfl) rfl rfl (by decide)) ?_,i + 1,A ++ [[.sl 1 (markInts kk x.Slots.length)]],(kk + 1 * (x.Slots.length:Int)),by omega,rfl,⟨by simp [hA],by rw [hR2,List.append_assoc];rfl,by omega,by omega⟩,rfl⟩
  refine Ent.wk [0] (h4:=objsLe_one (Nat.zero_lt_succ _) ?_) (h5:=?_)
  ·show AObj.vec 1 true _=AObj.vec 1 true _
   rw [getD_mid hA,set_mid hA,List.append_assoc]
   rfl
  ·simp [closeSt,St.setObj,envLe,find,AV.renF,AV.renF1,Leaf.renF,hw]
 ·have hge':i=l.length:=by omega
  subst hge'
  rw [List.drop_length] at hk2 hR2 ⊢
  rw [mrkSListS,List.append_nil] at hR2
  have hkk:kk=k + (cntSListS l:Int):=by rw [<- hk2];simp [cntSListS]
  have hd:decide (((l.length:Nat):Int) < ((l.length:Nat):Int))=false:=by simp
  rw [List.map_nil,List.append_nil]
  refine sv10 ?_
  apply hK
  refine evl ?_
  rw [hkk,hR2]
  refine Fin.nt results303 [0] ?_ ?_ ?_ <;> try trivial
  all_goals exact entd
theorem c304 (l:List SList) (hl:l.length <= 1048576) (hq:∀ x ∈ l,x.sok) (k:Int) (hk0:0 <= k) (hk:k + (cntSListS l:Int) <= 4611686018427387904):Ctr prog 304 [.one (.dat (.sl 1 (mrkSListS k l))),.one (.dat (.int .i64 k))] [] (.one (.dat (.int .i64 (k + (cntSListS l:Int))))) []:=by
 obtain ⟨R,hR⟩:∃ R,R=mrkSListS k l:=⟨_,rfl⟩
 have hRl:R.length=l.length:=by rw [hR,mrkSListS_len]
 rw [<- hR]
 refine Ctr.bd mixed func304 rfl ?_
 refine evl ?_
 refine LoopK_intro (fun zn zs=>∃ (i:Nat) (A:List (List D)) (kk:Int),i <= l.length /\ zn=l.length - i /\ (A.length=i /\ R=A ++ mrkSListS kk (l.drop i) /\ 0 <= kk /\ kk + (cntSListS (l.drop i):Int)=k + (cntSListS l:Int)) /\ zs=mkSt [(5,.one (.dat (.int .i64 i))),(1,.one (.dat (.int .i64 kk))),(0,.one (.dat (.sl 1 R)))] []) l.length _
  (Ent.wk []) ⟨0,[],k,by omega,by omega,⟨rfl,hR,hk0,rfl⟩,rfl⟩ ?_
 rintro zn zs ⟨i,A,kk,hi,rfl,⟨hA,hR2,hk1,hk2⟩,rfl⟩ K hK
 rcases Nat.lt_or_ge i l.length with hlt | hge
 ·have hd:decide ((i:Int) < ((l.length:Nat):Int))=true:=decide_eq_true (by omega)
  have hw:=wrap_succ hlt (show l.length <= maxLen by unfold maxLen;omega)
  have hqx:=hq l[i] (List.getElem_mem hlt)
  rw [List.drop_eq_getElem_cons hlt] at hk2 hR2
  generalize l[i]=x at hk2 hR2 hqx
  obtain ⟨q0,_⟩:=hqx
  rw [cntSListS_cons] at hk2
  rw [mrkSListS] at hR2
  have hcx:cntSList x=1 * x.Slots.length:=rfl
  have hg:R.getD i []=[.sl 1 (markInts kk x.Slots.length)]:=by rw [hR2,getD_mid hA]
  have hnn:decide (kk + 1 * (x.Slots.length:Int) < 0)=false:=decide_eq_false (by omega)
  simp (maxSteps:=2000000) only [go_sem,seval,hRl,hd,hg,hw]
  refine scs ?_
  refine ck e96 (c96 x.Slots.length kk (by omega) (by omega)) rfl ?_
  simp (maxSteps:=2000000) only [go_sem,seval,hw,hnn]
  apply hK
  exact ⟨l.length - (i + 1),_,by omega,Ent.wk [],i + 1,A ++ [[.sl 1 (markInts kk x.Slots.length)]],(kk + 1 * (x.Slots.length:Int)),by omega,rfl,⟨by simp [hA],by rw [hR2,List.append_assoc];rfl,by omega,by omega⟩,rfl⟩
 ·have hge':i=l.length:=by omega
  subst hge'
  rw [List.drop_length] at hk2
  have hkk:kk=k + (cntSListS l:Int):=by rw [<- hk2];simp [cntSListS]
  have hd:decide (((l.length:Nat):Int) < ((l.length:Nat):Int))=false:=by simp
  refine sv11 ?_
  apply hK
  refine evl ?_
  rw [hkk]
  refine Fin.nt results304 [] ?_ ?_ ?_ <;> try trivial
theorem c259_e (x:Heap) (k:Int) (hk0:0 <= k) (hk:k + (mcHeap x:Int) <= 4611686018427387904):Ctr prog 259 [.agg [.own 0,.own 1],.one (.dat (.int .i64 k))] [.vec 1 true (x.Bytes.map encI),.vec 1 true (x.Class.map encI)] (.one (.dat (.int .i64 (k + (mcHeap x:Int))))) [.vec 1 true (markInts k x.Bytes.length),.vec 1 true (markInts (k + 1 * (x.Bytes.length:Int)) x.Class.length)]:=by
 have hmc:mcHeap x=1 * x.Bytes.length + 1 * x.Class.length:=rfl
 refine Ctr.of_body mixed func259 rfl (by kernel_rfl) (Nat.le_of_ble_eq_true rfl) (by simp [AV.Clean,AV.Clean1,Leaf.Clean,D.flat]) (by simp [AObj.Sep]) (by simp) ?_ (by simp [AV.Low,AV.Low1,Leaf.Low]) ?_
 ·intro o ho
  have:o=0 \/ o=1:=by have:o < 2:=ho;omega
  rcases this with rfl | rfl <;> simp [Objs,Compat,markInts_len]
 show wpA _ _ _ (FinQ _ _ _ _ _) _
 refine evl ?_
 refine CallK_os [0] e91 (by simp [osOk,St.obj,find]) (c91 x.Bytes k (by omega) (by omega)) rfl ?_
 refine evl ?_
 refine CallK_os [1] e91 (by simp [osOk,St.obj,find]) (c91 x.Class (k + 1 * (x.Bytes.length:Int)) (by omega) (by omega)) rfl ?_
 refine evl ?_
 rw [show k + 1 * (x.Bytes.length:Int) + 1 * (x.Class.length:Int)=k + (mcHeap x:Int) by omega]
 refine Fin.nt results259 [0,1] ?_ ?_ ?_ <;> try trivial
 all_goals exact entd
theorem c260_e (x:Lists) (hx:x.sok) (k:Int) (hk0:0 <= k) (hk:k + (mcLists x:Int) <= 4611686018427387904):Ctr prog 260 [.agg [.own 0,.own 1],.one (.dat (.int .i64 k))] [.vec 1 true (x.Global.map encSList),.vec 1 true (x.Own.map encSList)] (.one (.dat (.int .i64 (k + (mcLists x:Int))))) [.vec 1 true (mrkSListS k x.Global),.vec 1 true (mrkSListS (k + (cntSListS x.Global:Int)) x.Own)]:=by
 have hmc:mcLists x=cntSListS x.Global + cntSListS x.Own:=rfl
 obtain ⟨q0,q1,q2,q3,_⟩:=hx
 refine Ctr.of_body mixed func260 rfl (by kernel_rfl) (Nat.le_of_ble_eq_true rfl) (by simp [AV.Clean,AV.Clean1,Leaf.Clean,D.flat]) (by simp [AObj.Sep]) (by simp) ?_ (by simp [AV.Low,AV.Low1,Leaf.Low]) ?_
 ·intro o ho
  have:o=0 \/ o=1:=by have:o < 2:=ho;omega
  rcases this with rfl | rfl <;> simp [Objs,Compat,mrkSListS_len]
 show wpA _ _ _ (FinQ _ _ _ _ _) _
 refine evl ?_
 refine CallK_os [0] e303 (by simp [osOk,St.obj,find]) (c303_e x.Global q0 q1 k (by omega) (by omega)) rfl ?_
 refine evl ?_
 refine CallK_os [1] e303 (by simp [osOk,St.obj,find]) (c303_e x.Own q2 q3 (k + (cntSListS x.Global:Int)) (by omega) (by omega)) rfl ?_
 refine evl ?_
 rw [show k + (cntSListS x.Global:Int) + (cntSListS x.Own:Int)=k + (mcLists x:Int) by omega]
 refine Fin.nt results260 [0,1] ?_ ?_ ?_ <;> try trivial
 all_goals exact entd
theorem c178_e (x:Mem) (hx:x.sok) (k:Int) (hk0:0 <= k) (hk:k + (mcMem x:Int) <= 4611686018427387904):Ctr prog 178 [.agg [.own 0,.own 1,.own 2,.own 3],.one (.dat (.int .i64 k))] [.vec 1 true (x.Heap.Bytes.map encI),.vec 1 true (x.Heap.Class.map encI),.vec 1 true (x.Lists.Global.map encSList),.vec 1 true (x.Lists.Own.map encSList)] (.one (.dat (.int .i64 (k + (mcMem x:Int)))))
  [.vec 1 true (markInts k x.Heap.Bytes.length),.vec 1 true (markInts (k + 1 * (x.Heap.Bytes.length:Int)) x.Heap.Class.length),.vec 1 true (mrkSListS (k + (mcHeap x.Heap:Int)) x.Lists.Global),.vec 1 true (mrkSListS (k + (mcHeap x.Heap:Int) + (cntSListS x.Lists.Global:Int)) x.Lists.Own)]:=by
 have hmc:mcMem x=mcHeap x.Heap + mcLists x.Lists:=rfl
 obtain ⟨q0,q1,_⟩:=hx
 refine Ctr.of_body mixed func178 rfl (by kernel_rfl) (Nat.le_of_ble_eq_true rfl) (by simp [AV.Clean,AV.Clean1,Leaf.Clean,D.flat]) (by simp [AObj.Sep]) (by simp) ?_ (by simp [AV.Low,AV.Low1,Leaf.Low]) ?_
 ·intro o ho
  have:o=0 \/ o=1 \/ o=2 \/ o=3:=by have:o < 4:=ho;omega
  rcases this with rfl | rfl | rfl | rfl <;> simp [Objs,Compat,mrkSListS_len,markInts_len]
 show wpA _ _ _ (FinQ _ _ _ _ _) _
 refine evl ?_
 refine CallK_os [0,1] e259 (by simp [osOk,St.obj,find]) (c259_e x.Heap k (by omega) (by omega)) rfl ?_
 refine evl ?_
 refine CallK_os [2,3] e260 (by simp [osOk,St.obj,find]) (c260_e x.Lists q1 (k + (mcHeap x.Heap:Int)) (by omega) (by omega)) rfl ?_
 refine evl ?_
 rw [show k + (mcHeap x.Heap:Int) + (mcLists x.Lists:Int)=k + (mcMem x:Int) by omega]
 refine Fin.nt results178 [0,1,2,3] ?_ ?_ ?_ <;> try trivial
 all_goals exact entd
theorem c263 (x:Heap) (k:Int) (hk0:0 <= k) (hk:k + (mcHeap x:Int) <= 4611686018427387904):Ctr prog 263 [.agg [.dat (.sl 1 (markInts k x.Bytes.length)),.dat (.sl 1 (markInts (k + 1 * (x.Bytes.length:Int)) x.Class.length))],.one (.dat (.int .i64 k))] [] (.one (.dat (.int .i64 (k + (mcHeap x:Int))))) []:=by
 have hmc:mcHeap x=1 * x.Bytes.length + 1 * x.Class.length:=rfl
 have hn1:decide (k + 1 * (x.Bytes.length:Int) < 0)=false:=decide_eq_false (by omega)
 have hn2:decide (k + (mcHeap x:Int) < 0)=false:=decide_eq_false (by omega)
 have e2:k + 1 * (x.Bytes.length:Int) + 1 * (x.Class.length:Int)=k + (mcHeap x:Int):=by omega
 refine Ctr.bd mixed func263 rfl ?_
 refine evl ?_
 refine ck e96 (c96 x.Bytes.length k (by omega) (by omega)) rfl ?_
 refine sv12 ?_
 refine ck e96 (c96 x.Class.length (k + 1 * (x.Bytes.length:Int)) (by omega) (by omega)) rfl ?_
 rw [e2]
 refine sv13 ?_
 refine Fin.nt results263 [] ?_ ?_ ?_ <;> try trivial
theorem c264 (x:Lists) (hx:x.sok) (k:Int) (hk0:0 <= k) (hk:k + (mcLists x:Int) <= 4611686018427387904):Ctr prog 264 [.agg [.dat (.sl 1 (mrkSListS k x.Global)),.dat (.sl 1 (mrkSListS (k + (cntSListS x.Global:Int)) x.Own))],.one (.dat (.int .i64 k))] [] (.one (.dat (.int .i64 (k + (mcLists x:Int))))) []:=by
 have hmc:mcLists x=cntSListS x.Global + cntSListS x.Own:=rfl
 obtain ⟨q0,q1,q2,q3,_⟩:=hx
 have hn1:decide (k + (cntSListS x.Global:Int) < 0)=false:=decide_eq_false (by omega)
 have hn2:decide (k + (mcLists x:Int) < 0)=false:=decide_eq_false (by omega)
 have e2:k + (cntSListS x.Global:Int) + (cntSListS x.Own:Int)=k + (mcLists x:Int):=by omega
 refine Ctr.bd mixed func264 rfl ?_
 refine evl ?_
 refine ck e304 (c304 x.Global q0 q1 k (by omega) (by omega)) rfl ?_
 refine sv12 ?_
 refine ck e304 (c304 x.Own q2 q3 (k + (cntSListS x.Global:Int)) (by omega) (by omega)) rfl ?_
 rw [e2]
 refine sv13 ?_
 refine Fin.nt results264 [] ?_ ?_ ?_ <;> try trivial
theorem c182 (x:Mem) (hx:x.sok) (k:Int) (hk0:0 <= k) (hk:k + (mcMem x:Int) <= 4611686018427387904):Ctr prog 182 [.agg [.dat (.sl 1 (markInts k x.Heap.Bytes.length)),.dat (.sl 1 (markInts (k + 1 * (x.Heap.Bytes.length:Int)) x.Heap.Class.length)),.dat (.sl 1 (mrkSListS (k + (mcHeap x.Heap:Int)) x.Lists.Global)),.dat (.sl 1 (mrkSListS (k + (mcHeap x.Heap:Int) + (cntSListS x.Lists.Global:Int)) x.Lists.Own))],.one (.dat (.int .i64 k))] [] (.one (.dat (.int .i64 (k + (mcMem x:Int))))) []:=by
 have hmc:mcMem x=mcHeap x.Heap + mcLists x.Lists:=rfl
 obtain ⟨q0,q1,_⟩:=hx
 have hn1:decide (k + (mcHeap x.Heap:Int) < 0)=false:=decide_eq_false (by omega)
 have hn2:decide (k + (mcMem x:Int) < 0)=false:=decide_eq_false (by omega)
 have e2:k + (mcHeap x.Heap:Int) + (mcLists x.Lists:Int)=k + (mcMem x:Int):=by omega
 refine Ctr.bd mixed func182 rfl ?_
 refine evl ?_
 refine ck e263 (c263 x.Heap k (by omega) (by omega)) rfl ?_
 refine sv12 ?_
 refine ck e264 (c264 x.Lists q1 (k + (mcHeap x.Heap:Int)) (by omega) (by omega)) rfl ?_
 rw [e2]
 refine sv13 ?_
 refine Fin.nt results182 [] ?_ ?_ ?_ <;> try trivial
end Go.Proofs.YtcnddedeeplbcaaGreat.Mod
