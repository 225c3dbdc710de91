import Derived.Test.YtcnddedeeplbcaaGreatRows
import Derived.Test.YtcnddedeeplbcaaGreatSATy
import Derived.Test.YtcnddedeeplbcaaGreatSAbsTac
import Derived.Test.YtcnddedeeplbcaaGreatSAbsData
import Derived.Test.YtcnddedeeplbcaaGreatSAFam2
import Derived.WalkKit
import Derived.ProofKit
import Derived.OpenShut
/- Contracts: Fam3. -/
namespace Go.Proofs.YtcnddedeeplbcaaGreat.Mod
open Go.Proofs.Tryz Go.Abs Go.Proofs.YtcnddedeeplbcaaGreat.Ty Go.ChangeShapes Go.WideShapes Go.ChangeAt Go.RowKit
set_option linter.unusedSimpArgs false
set_option linter.unusedVariables false
set_option maxHeartbeats 8000000
set_option maxRecDepth 100000
def markInts (k:Int) (n:Nat):List (List D):=(List.range n).map fun i=>encI (k + 1 * (i:Nat))
theorem drop_mid {α:Type} {A B:List α} {i:Nat} {x:α} (h:A.length=i):(A ++ x :: B).drop (i + 1)=B:=by
 subst h;rw [List.drop_append];simp
def Heap.sok (x:Heap):Prop:=x.Bytes.length <= 1048576 /\ x.Class.length <= 1048576 /\ True
theorem Heap.sok_of {x:Heap} (h:sizHeap x <= 1048576):x.sok:=by
 unfold sizHeap at h
 exact ⟨by omega,by omega,trivial⟩
def mcHeap (x:Heap):Nat:=1 * x.Bytes.length + 1 * x.Class.length
theorem mcHeap_le (x:Heap):mcHeap x <= 32 * sizHeap x:=by
 unfold mcHeap sizHeap
 omega
def SList.sok (x:SList):Prop:=x.Slots.length <= 1048576 /\ True
theorem SList.sok_of {x:SList} (h:sizSList x <= 1048576):x.sok:=by
 unfold sizSList at h
 exact ⟨by omega,trivial⟩
def cntSList (x:SList):Nat:=1 * x.Slots.length
def cntSListS (l:List SList):Nat:=(l.map cntSList).sum
theorem cntSListS_cons (x:SList) (l:List SList):cntSListS (x :: l)=cntSList x + cntSListS l:=by simp [cntSListS]
theorem cntSList_le (x:SList):cntSList x <= 32 * (1 + sizSList x):=by
 unfold cntSList sizSList
 omega
theorem cntSListS_le (l:List SList):cntSListS l <= 32 * sizSListS l:=by
 unfold sizSListS
 induction l with
 | nil=>simp [cntSListS]
 | cons x l ih =>
  have:=cntSList_le x
  rw [cntSListS_cons,List.length_cons,List.map_cons,List.sum_cons]
  omega
def Lists.sok (x:Lists):Prop:=x.Global.length <= 1048576 /\ (∀ y ∈ x.Global,y.sok) /\ x.Own.length <= 1048576 /\ (∀ y ∈ x.Own,y.sok) /\ True
theorem Lists.sok_of {x:Lists} (h:sizLists x <= 1048576):x.sok:=by
 unfold sizLists at h
 unfold sizSListS at h
 exact ⟨by omega,fun y hy=>SList.sok_of (by have:=sum_mem sizSList hy;omega),by omega,fun y hy=>SList.sok_of (by have:=sum_mem sizSList hy;omega),trivial⟩
def mcLists (x:Lists):Nat:=cntSListS x.Global + cntSListS x.Own
theorem mcLists_le (x:Lists):mcLists x <= 32 * sizLists x:=by
 have:=cntSListS_le x.Global
 have:=cntSListS_le x.Own
 unfold mcLists sizLists
 omega
def Mem.sok (x:Mem):Prop:=x.Heap.sok /\ x.Lists.sok /\ True
theorem Mem.sok_of {x:Mem} (h:sizMem x <= 1048576):x.sok:=by
 unfold sizMem at h
 exact ⟨Heap.sok_of (by omega),Lists.sok_of (by omega),trivial⟩
def mcMem (x:Mem):Nat:=mcHeap x.Heap + mcLists x.Lists
theorem mcMem_le (x:Mem):mcMem x <= 32 * sizMem x:=by
 have:=mcHeap_le x.Heap
 have:=mcLists_le x.Lists
 unfold mcMem sizMem
 omega
def Clock.sok (x:Clock):Prop:=x.Pins.length <= 1048576 /\ True
theorem Clock.sok_of {x:Clock} (h:sizClock x <= 1048576):x.sok:=by
 unfold sizClock at h
 exact ⟨by omega,trivial⟩
def mcClock (x:Clock):Nat:=4 * x.Pins.length
theorem mcClock_le (x:Clock):mcClock x <= 32 * sizClock x:=by
 unfold mcClock sizClock
 omega
def LList.sok (x:LList):Prop:=x.Rows.length <= 1048576 /\ True
theorem LList.sok_of {x:LList} (h:sizLList x <= 1048576):x.sok:=by
 unfold sizLList at h
 exact ⟨by omega,trivial⟩
def cntLList (x:LList):Nat:=2 * x.Rows.length
def cntLListS (l:List LList):Nat:=(l.map cntLList).sum
theorem cntLListS_cons (x:LList) (l:List LList):cntLListS (x :: l)=cntLList x + cntLListS l:=by simp [cntLListS]
theorem cntLList_le (x:LList):cntLList x <= 32 * (1 + sizLList x):=by
 unfold cntLList sizLList
 omega
theorem cntLListS_le (l:List LList):cntLListS l <= 32 * sizLListS l:=by
 unfold sizLListS
 induction l with
 | nil=>simp [cntLListS]
 | cons x l ih =>
  have:=cntLList_le x
  rw [cntLListS_cons,List.length_cons,List.map_cons,List.sum_cons]
  omega
def Base.sok (x:Base):Prop:=x.Mem.sok /\ x.Clock.sok /\ x.Limbo.length <= 1048576 /\ (∀ y ∈ x.Limbo,y.sok) /\ x.Haz.length <= 1048576 /\ True
theorem Base.sok_of {x:Base} (h:sizBase x <= 1048576):x.sok:=by
 unfold sizBase at h
 unfold sizLListS at h
 exact ⟨Mem.sok_of (by omega),Clock.sok_of (by omega),by omega,fun y hy=>LList.sok_of (by have:=sum_mem sizLList hy;omega),by omega,trivial⟩
def mcBase (x:Base):Nat:=mcMem x.Mem + mcClock x.Clock + cntLListS x.Limbo + 1 * x.Haz.length
theorem mcBase_le (x:Base):mcBase x <= 32 * sizBase x:=by
 have:=mcMem_le x.Mem
 have:=mcClock_le x.Clock
 have:=cntLListS_le x.Limbo
 unfold mcBase sizBase
 omega
def Queue.sok (x:Queue):Prop:=x.Ops.length <= 1048576 /\ True
theorem Queue.sok_of {x:Queue} (h:sizQueue x <= 1048576):x.sok:=by
 unfold sizQueue at h
 exact ⟨by omega,trivial⟩
def cntQueue (x:Queue):Nat:=4 * x.Ops.length
def cntQueueS (l:List Queue):Nat:=(l.map cntQueue).sum
theorem cntQueueS_cons (x:Queue) (l:List Queue):cntQueueS (x :: l)=cntQueue x + cntQueueS l:=by simp [cntQueueS]
theorem cntQueue_le (x:Queue):cntQueue x <= 32 * (1 + sizQueue x):=by
 unfold cntQueue sizQueue
 omega
theorem cntQueueS_le (l:List Queue):cntQueueS l <= 32 * sizQueueS l:=by
 unfold sizQueueS
 induction l with
 | nil=>simp [cntQueueS]
 | cons x l ih =>
  have:=cntQueue_le x
  rw [cntQueueS_cons,List.length_cons,List.map_cons,List.sum_cons]
  omega
def Shelf.sok (x:Shelf):Prop:=x.Base.sok /\ x.Cells.length <= 1048576 /\ x.Jobs.length <= 1048576 /\ x.Todo.length <= 1048576 /\ (∀ y ∈ x.Todo,y.sok) /\ x.Log.length <= 1048576 /\ True
theorem Shelf.sok_of {x:Shelf} (h:sizShelf x <= 1048576):x.sok:=by
 unfold sizShelf at h
 unfold sizQueueS at h
 exact ⟨Base.sok_of (by omega),by omega,by omega,by omega,fun y hy=>Queue.sok_of (by have:=sum_mem sizQueue hy;omega),by omega,trivial⟩
def mcShelf (x:Shelf):Nat:=mcBase x.Base + 1 * x.Cells.length + 21 * x.Jobs.length + cntQueueS x.Todo + 7 * x.Log.length
theorem mcShelf_le (x:Shelf):mcShelf x <= 32 * sizShelf x:=by
 have:=mcBase_le x.Base
 have:=cntQueueS_le x.Todo
 unfold mcShelf sizShelf
 omega
theorem c91 (l:List Int) (k:Int) (hk0:0 <= k) (hk:k + 1 * l.length <= 4611686018427387904):Ctr prog 91 [.one (.own 0),.one (.dat (.int .i64 k))] [.vec 1 true (l.map encI)] (.one (.dat (.int .i64 (k + 1 * l.length)))) [.vec 1 true (markInts k l.length)]:=by
 refine Ctr.of_body mixed func91 rfl (by kernel_rfl) (Nat.le_of_ble_eq_true rfl) (by simp [AV.Clean,AV.Clean1,Leaf.Clean,D.flat]) (by simp [AObj.Sep]) (by simp) ?_ (by simp [AV.Low,AV.Low1,Leaf.Low]) ?_
 ·intro o ho
  have:o=0:=by simpa using ho
  subst this
  simp [Objs,Compat,markInts]
 show wpA _ _ _ (FinQ _ _ _ _ _) _
 unfold markInts
 refine evl ?_
 refine LoopK_intro (fun n s=>∃ i:Nat,i <= l.length /\ n=l.length - i /\ s=mkSt [(5,.one (.dat (.int .i64 i))),(1,.one (.dat (.int .i64 (k + 1 * (i:Nat))))),(0,.one (.own 0))]
   [.vec 1 true ((List.range i).map (fun i=>encI (k + 1 * (i:Nat))) ++ (l.drop i).map encI)]) l.length _
  (Ent.wk [0]) ⟨0,by omega,by omega,rfl⟩ ?_
 rintro n s ⟨i,hi,rfl,rfl⟩ K hK
 have hlen:((List.range i).map (fun i=>encI (k + 1 * (i:Nat))) ++ (l.drop i).map encI).length=l.length:=by simp;omega
 rcases Nat.lt_or_ge i l.length with hlt | hge
 ·have hA:((List.range i).map (fun i=>encI (k + 1 * (i:Nat)))).length=i:=by simp
  have hd:decide ((i:Int) < l.length)=true:=by simpa using hlt
  have hw:=wrap_succ hlt (show l.length <= maxLen by unfold maxLen;omega)
  have hw1:IntKind.i64.wrap (k + 1 * (i:Int) + 1)=k + 1 * (i:Int) + 1:=by rw [IntKind.wrap_i64];omega
  rw [List.drop_eq_getElem_cons hlt,List.map_cons] at hlen ⊢
  generalize hAd:(List.range i).map (fun i=>encI (k + 1 * (i:Nat)))=A at hA hlen ⊢
  have hl1:∀ x,(A ++ x :: (l.drop (i + 1)).map encI).length=l.length:=fun x=>by
   rw [List.length_append,List.length_cons] at hlen ⊢;exact hlen
  simp (maxSteps:=2000000) only [go_sem,seval,hl1,hd,set_mid hA,getD_mid hA,encI,hw,hw1,D.flat]
  refine scs ?_
  apply hK
  refine ⟨l.length - (i + 1),_,by omega,Ent.weak (ids:=[0]) (by simp) rfl (by simp) ?_ ?_ (by simp [objsLe,envLe,find,St.obj,AObj.renF,AV.renF,AV.renF1,Leaf.renF,LowAll,AV.Low,AV.Low1,Leaf.Low,AObj.Low,Ptr.renF,Ptr.Low]),i + 1,by omega,rfl,rfl⟩
  ·rw [List.range_succ,List.map_append,hAd]
   simp [objsLe,envLe,find,St.obj,AObj.renF,AV.renF,AV.renF1,Leaf.renF,LowAll,AV.Low,AV.Low1,Leaf.Low,AObj.Low,Ptr.renF,Ptr.Low]
   rfl
  ·simp [objsLe,envLe,find,St.obj,AObj.renF,AV.renF,AV.renF1,Leaf.renF,LowAll,AV.Low,AV.Low1,Leaf.Low,AObj.Low,Ptr.renF,Ptr.Low]
   omega
 ·have hge':i=l.length:=by omega
  subst hge'
  have hd:decide ((l.length:Int) < l.length)=false:=by simp
  refine sv2 ?_
  apply hK
  refine evl ?_
  refine Fin.nt results91 [0] ?_ ?_ ?_ <;> try trivial
  rw [List.drop_length,List.map_nil,List.append_nil]
  simp [objsLe,envLe,find,St.obj,AObj.renF,AV.renF,AV.renF1,Leaf.renF,LowAll,AV.Low,AV.Low1,Leaf.Low,AObj.Low,Ptr.renF,Ptr.Low]
theorem c96 (n:Nat) (k:Int) (hk0:0 <= k) (hk:k + 1 * n <= 4611686018427387904):Ctr prog 96 [.one (.dat (.sl 1 (markInts k n))),.one (.dat (.int .i64 k))] [] (.one (.dat (.int .i64 (k + 1 * n)))) []:=by
 refine Ctr.bd mixed func96 rfl ?_
 unfold markInts
 refine evl ?_
 refine LoopK_intro (fun m s=>∃ i:Nat,i <= n /\ m=n - i /\ s=mkSt [(5,.one (.dat (.int .i64 i))),(1,.one (.dat (.int .i64 (k + 1 * (i:Nat))))),(0,.one (.dat (.sl 1 ((List.range n).map fun i=>encI (k + 1 * (i:Nat))))))] []) n _
  (Ent.wk []) ⟨0,by omega,by omega,rfl⟩ ?_
 rintro m s ⟨i,hi,rfl,rfl⟩ K hK
 have hlen:((List.range n).map fun i=>encI (k + 1 * (i:Nat))).length=n:=by simp
 rcases Nat.lt_or_ge i n with hlt | hge
 ·have hd:decide ((i:Int) < n)=true:=by simpa using hlt
  have hw:=wrap_succ hlt (show n <= maxLen by unfold maxLen;omega)
  have hw1:IntKind.i64.wrap (k + 1 * (i:Int) + 1)=k + 1 * (i:Int) + 1:=by rw [IntKind.wrap_i64];omega
  have hg:((List.range n).map fun i=>encI (k + 1 * (i:Nat))).getD i []=encI (k + 1 * (i:Nat)):=getD_range hlt
  generalize ((List.range n).map fun i=>encI (k + 1 * (i:Nat)))=L at hlen hg hK ⊢
  simp (maxSteps:=2000000) only [go_sem,seval,hlen,hd,hg,encI,hw,hw1]
  refine scs ?_
  apply hK
  refine ⟨n - (i + 1),_,by omega,Ent.weak (ids:=[]) (by simp) rfl (by simp) (by simp [objsLe,envLe,find,St.obj,AObj.renF,AV.renF,AV.renF1,Leaf.renF,LowAll,AV.Low,AV.Low1,Leaf.Low,AObj.Low,Ptr.renF,Ptr.Low]) (by simp [objsLe,envLe,find,St.obj,AObj.renF,AV.renF,AV.renF1,Leaf.renF,LowAll,AV.Low,AV.Low1,Leaf.Low,AObj.Low,Ptr.renF,Ptr.Low];omega) (by simp [objsLe,envLe,find,St.obj,AObj.renF,AV.renF,AV.renF1,Leaf.renF,LowAll,AV.Low,AV.Low1,Leaf.Low,AObj.Low,Ptr.renF,Ptr.Low]),i + 1,by omega,rfl,rfl⟩
 ·have hge':i=n:=by omega
  subst hge'
  have hd:decide ((i:Int) < i)=false:=by simp
  refine sv3 ?_
  apply hK
  refine evl ?_
  refine Fin.nt results96 [] ?_ ?_ ?_ <;> try trivial
theorem c91_v (l:List Int) (k:Int) (hk0:0 <= k) (hk:k + 1 * l.length <= 4611686018427387904):Ctr prog 91 [.one (.own 0),.one (.dat (.int .i64 k))] [.vec 1 true (l.map encI)] (.one (.dat (.int .i64 (k + 1 * l.length)))) [.dead]:=Ctr.drop (c91 l k hk0 hk) rfl
theorem c91_g (l:List Int) (k:Int) (hk0:0 <= k) (hk:k + 1 * l.length <= 4611686018427387904):Ctr prog 91 [.one (.own 0),.one (.dat (.int .i64 k))] [lent 1 (l.map encI)] (.one (.dat (.int .i64 (k + 1 * l.length)))) [.dead]:=by
 exact c91_v l k hk0 hk
theorem c259 (x:Heap) (hx:x.sok) (k:Int) (hk0:0 <= k) (hk:k + (mcHeap x:Int) <= 4611686018427387904):Ctr prog 259 [.agg [.own 0,.own 1],.one (.dat (.int .i64 k))] [.vec 1 true (x.Bytes.map encI),.vec 1 true (x.Class.map encI)] (.one (.dat (.int .i64 (k + (mcHeap x:Int))))) [.dead,.dead]:=by
 have hmc:mcHeap x=1 * x.Bytes.length + 1 * x.Class.length:=rfl
 obtain ⟨q0,q1,_⟩:=hx
 refine Ctr.bg mixed func259 rfl ?_
 refine evl ?_
 refine scs ?_
 refine CallK_os [0] e91 (by simp [osOk,St.obj,find]) (c91_v x.Bytes (k) (by omega) (by omega)) rfl ?_
 refine evl ?_
 refine scs ?_
 refine CallK_os [1] e91 (by simp [osOk,St.obj,find]) (c91_v x.Class ((k + 1 * (x.Bytes.length:Int))) (by omega) (by omega)) rfl ?_
 refine evl ?_
 rw [show ((k + 1 * (x.Bytes.length:Int)) + 1 * (x.Class.length:Int))=k + (mcHeap x:Int) by omega]
 refine Fin.nt results259 [0,1] ?_ ?_ ?_ <;> try trivial
 all_goals exact entd
theorem c303_v (l:List SList) (hl:l.length <= 1048576) (hq:∀ x ∈ l,x.sok) (k:Int) (hk0:0 <= k) (hk:k + (cntSListS l:Int) <= 4611686018427387904):Ctr prog 303 [.one (.own 0),.one (.dat (.int .i64 k))] [.vec 1 true (l.map encSList)] (.one (.dat (.int .i64 (k + (cntSListS l:Int))))) [.dead]:=by
 refine Ctr.bg mixed func303 rfl ?_
 refine evl ?_
 refine LoopK_intro (fun zn zs=>∃ (i:Nat) (R:List (List D)) (kk:Int),i <= l.length /\ zn=l.length - i /\ (R.length=l.length /\ R.drop i=(l.drop i).map encSList /\ 0 <= kk /\ kk + (cntSListS (l.drop i):Int)=k + (cntSListS l:Int)) /\ zs=mkSt [(5,.one (.dat (.int .i64 i))),(1,.one (.dat (.int .i64 kk))),(0,.one (.own 0))] [.vec 1 true R]) l.length _
  (Ent.wk [0]) ⟨0,l.map encSList,k,by omega,by omega,⟨by simp,rfl,hk0,rfl⟩,rfl⟩ ?_
 rintro zn zs ⟨i,R,kk,hi,rfl,⟨hR1,hR2,hk1,hk2⟩,rfl⟩ K hK
 rcases Nat.lt_or_ge i l.length with hlt | hge
 ·have hd:decide ((i:Int) < ((l.length:Nat):Int))=true:=decide_eq_true (by omega)
  have hw:=wrap_succ hlt (show l.length <= maxLen by unfold maxLen;omega)
  have hqx:=hq l[i] (List.getElem_mem hlt)
  rw [List.drop_eq_getElem_cons hlt] at hk2 hR2
  rw [List.map_cons] at hR2
  generalize l[i]=x at hk2 hR2 hqx
  obtain ⟨q0,_⟩:=hqx
  rw [cntSListS_cons] at hk2
  have hcx:cntSList x=1 * x.Slots.length:=rfl
  have hA:(R.take i).length=i:=by rw [List.length_take];omega
  have hR:R=R.take i ++ encSList x :: (l.drop (i + 1)).map encSList:=by rw [<- hR2,List.take_append_drop]
  generalize hB:(l.drop (i + 1)).map encSList=B at hR
  generalize R.take i=A at hA hR
  subst hR
  have hl1:∀ y,(A ++ y :: B).length=l.length:=fun y=>by rw [List.length_append,List.length_cons] at hR1 ⊢;exact hR1
  clear hR2
  refine sv6 ?_
  refine scs ?_
  intro v0
  try (refine sv6 ?_)
  refine scs ?_
  refine CallK_os [1] e91 (by simp [osOk,St.obj,find]) (c91_g x.Slots (kk) (by omega) (by omega)) rfl ?_
  refine sv6 ?_
  refine scs ?_
  apply hK
  refine ⟨l.length - (i + 1),_,by omega,Ent.wk [0] (h4:=objsLe_one (Nat.zero_lt_succ _) rfl),i + 1,_,(kk + 1 * (x.Slots.length:Int)),by omega,rfl,⟨hl1 _,?_,by omega,by omega⟩,rfl⟩
  rw [drop_mid hA,hB]
 ·have hge':i=l.length:=by omega
  subst hge'
  rw [List.drop_length] at hk2
  have hkk:kk=k + (cntSListS l:Int):=by rw [<- hk2];simp [cntSListS]
  have hd:decide (((l.length:Nat):Int) < ((l.length:Nat):Int))=false:=by simp
  refine sv7 ?_
  apply hK
  refine evl ?_
  rw [hkk]
  refine Fin.nt results303 [0] ?_ ?_ ?_ <;> try trivial
  all_goals exact entd
theorem c260 (x:Lists) (hx:x.sok) (k:Int) (hk0:0 <= k) (hk:k + (mcLists x:Int) <= 4611686018427387904):Ctr prog 260 [.agg [.own 0,.own 1],.one (.dat (.int .i64 k))] [.vec 1 true (x.Global.map encSList),.vec 1 true (x.Own.map encSList)] (.one (.dat (.int .i64 (k + (mcLists x:Int))))) [.dead,.dead]:=by
 have hmc:mcLists x=cntSListS x.Global + cntSListS x.Own:=rfl
 obtain ⟨q0,q1,q2,q3,_⟩:=hx
 refine Ctr.bg mixed func260 rfl ?_
 refine evl ?_
 refine scs ?_
 refine CallK_os [0] e303 (by simp [osOk,St.obj,find]) (c303_v x.Global q0 q1 (k) (by omega) (by omega)) rfl ?_
 refine evl ?_
 refine scs ?_
 refine CallK_os [1] e303 (by simp [osOk,St.obj,find]) (c303_v x.Own q2 q3 ((k + (cntSListS x.Global:Int))) (by omega) (by omega)) rfl ?_
 refine evl ?_
 rw [show ((k + (cntSListS x.Global:Int)) + (cntSListS x.Own:Int))=k + (mcLists x:Int) by omega]
 refine Fin.nt results260 [0,1] ?_ ?_ ?_ <;> try trivial
 all_goals exact entd
theorem c178 (x:Mem) (hx:x.sok) (k:Int) (hk0:0 <= k) (hk:k + (mcMem x:Int) <= 4611686018427387904):Ctr prog 178 [.agg [.own 0,.own 1,.own 2,.own 3],.one (.dat (.int .i64 k))] [.vec 1 true (x.Heap.Bytes.map encI),.vec 1 true (x.Heap.Class.map encI),.vec 1 true (x.Lists.Global.map encSList),.vec 1 true (x.Lists.Own.map encSList)] (.one (.dat (.int .i64 (k + (mcMem x:Int))))) [.dead,.dead,.dead,.dead]:=by
 have hmc:mcMem x=mcHeap x.Heap + mcLists x.Lists:=rfl
 obtain ⟨q0,q1,_⟩:=hx
 refine Ctr.bg mixed func178 rfl ?_
 refine evl ?_
 refine scs ?_
 refine CallK_os [0,1] e259 (by simp [osOk,St.obj,find]) (c259 x.Heap q0 (k) (by omega) (by omega)) rfl ?_
 refine evl ?_
 refine scs ?_
 refine CallK_os [2,3] e260 (by simp [osOk,St.obj,find]) (c260 x.Lists q1 ((k + (mcHeap x.Heap:Int))) (by omega) (by omega)) rfl ?_
 refine evl ?_
 rw [show ((k + (mcHeap x.Heap:Int)) + (mcLists x.Lists:Int))=k + (mcMem x:Int) by omega]
 refine Fin.nt results178 [0,1,2,3] ?_ ?_ ?_ <;> try trivial
 all_goals exact entd
theorem c261_v (l:List Pin) (k:Int) (hk0:0 <= k) (hk:k + 4 * l.length <= 4611686018427387904):Ctr prog 261 [.one (.own 0),.one (.dat (.int .i64 k))] [.vec 4 true (l.map encPin)] (.one (.dat (.int .i64 (k + 4 * l.length)))) [.dead]:=Ctr.drop (c261 l k hk0 hk) rfl
theorem c179 (x:Clock) (hx:x.sok) (k:Int) (hk0:0 <= k) (hk:k + (mcClock x:Int) <= 4611686018427387904):Ctr prog 179 [.agg [.dat (.int .i64 x.Epoch),.own 0],.one (.dat (.int .i64 k))] [.vec 4 true (x.Pins.map encPin)] (.one (.dat (.int .i64 (k + (mcClock x:Int))))) [.dead]:=by
 have hmc:mcClock x=4 * x.Pins.length:=rfl
 obtain ⟨q0,_⟩:=hx
 refine Ctr.bg mixed func179 rfl ?_
 refine evl ?_
 refine scs ?_
 refine CallK_os [0] e261 (by simp [osOk,St.obj,find]) (c261_v x.Pins (k) (by omega) (by omega)) rfl ?_
 refine evl ?_
 rw [show (k + 4 * (x.Pins.length:Int))=k + (mcClock x:Int) by omega]
 refine Fin.nt results179 [0] ?_ ?_ ?_ <;> try trivial
 all_goals exact entd
theorem c262_v (l:List LRow) (k:Int) (hk0:0 <= k) (hk:k + 2 * l.length <= 4611686018427387904):Ctr prog 262 [.one (.own 0),.one (.dat (.int .i64 k))] [.vec 2 true (l.map encLRow)] (.one (.dat (.int .i64 (k + 2 * l.length)))) [.dead]:=Ctr.drop (c262 l k hk0 hk) rfl
theorem c262_g (l:List LRow) (k:Int) (hk0:0 <= k) (hk:k + 2 * l.length <= 4611686018427387904):Ctr prog 262 [.one (.own 0),.one (.dat (.int .i64 k))] [lent 2 (l.map encLRow)] (.one (.dat (.int .i64 (k + 2 * l.length)))) [.dead]:=by
 exact c262_v l k hk0 hk
theorem c180_v (l:List LList) (hl:l.length <= 1048576) (hq:∀ x ∈ l,x.sok) (k:Int) (hk0:0 <= k) (hk:k + (cntLListS l:Int) <= 4611686018427387904):Ctr prog 180 [.one (.own 0),.one (.dat (.int .i64 k))] [.vec 1 true (l.map encLList)] (.one (.dat (.int .i64 (k + (cntLListS l:Int))))) [.dead]:=by
 refine Ctr.bg mixed func180 rfl ?_
 refine evl ?_
 refine LoopK_intro (fun zn zs=>∃ (i:Nat) (R:List (List D)) (kk:Int),i <= l.length /\ zn=l.length - i /\ (R.length=l.length /\ R.drop i=(l.drop i).map encLList /\ 0 <= kk /\ kk + (cntLListS (l.drop i):Int)=k + (cntLListS l:Int)) /\ zs=mkSt [(5,.one (.dat (.int .i64 i))),(1,.one (.dat (.int .i64 kk))),(0,.one (.own 0))] [.vec 1 true R]) l.length _
  (Ent.wk [0]) ⟨0,l.map encLList,k,by omega,by omega,⟨by simp,rfl,hk0,rfl⟩,rfl⟩ ?_
 rintro zn zs ⟨i,R,kk,hi,rfl,⟨hR1,hR2,hk1,hk2⟩,rfl⟩ K hK
 rcases Nat.lt_or_ge i l.length with hlt | hge
 ·have hd:decide ((i:Int) < ((l.length:Nat):Int))=true:=decide_eq_true (by omega)
  have hw:=wrap_succ hlt (show l.length <= maxLen by unfold maxLen;omega)
  have hqx:=hq l[i] (List.getElem_mem hlt)
  rw [List.drop_eq_getElem_cons hlt] at hk2 hR2
  rw [List.map_cons] at hR2
  generalize l[i]=x at hk2 hR2 hqx
  obtain ⟨q0,_⟩:=hqx
  rw [cntLListS_cons] at hk2
  have hcx:cntLList x=2 * x.Rows.length:=rfl
  have hA:(R.take i).length=i:=by rw [List.length_take];omega
  have hR:R=R.take i ++ encLList x :: (l.drop (i + 1)).map encLList:=by rw [<- hR2,List.take_append_drop]
  generalize hB:(l.drop (i + 1)).map encLList=B at hR
  generalize R.take i=A at hA hR
  subst hR
  have hl1:∀ y,(A ++ y :: B).length=l.length:=fun y=>by rw [List.length_append,List.length_cons] at hR1 ⊢;exact hR1
  clear hR2
  refine sv8 ?_
  refine scs ?_
  intro v0
  try (refine sv8 ?_)
  refine scs ?_
  refine CallK_os [1] e262 (by simp [osOk,St.obj,find]) (c262_g x.Rows (kk) (by omega) (by omega)) rfl ?_
  refine sv8 ?_
  refine scs ?_
  apply hK
  refine ⟨l.length - (i + 1),_,by omega,Ent.wk [0] (h4:=objsLe_one (Nat.zero_lt_succ _) rfl),i + 1,_,(kk + 2 * (x.Rows.length:Int)),by omega,rfl,⟨hl1 _,?_,by omega,by omega⟩,rfl⟩
  rw [drop_mid hA,hB]
 ·have hge':i=l.length:=by omega
  subst hge'
  rw [List.drop_length] at hk2
  have hkk:kk=k + (cntLListS l:Int):=by rw [<- hk2];simp [cntLListS]
  have hd:decide (((l.length:Nat):Int) < ((l.length:Nat):Int))=false:=by simp
  refine sv7 ?_
  apply hK
  refine evl ?_
  rw [hkk]
  refine Fin.nt results180 [0] ?_ ?_ ?_ <;> try trivial
  all_goals exact entd
theorem c90 (x:Base) (hx:x.sok) (k:Int) (hk0:0 <= k) (hk:k + (mcBase x:Int) <= 4611686018427387904):Ctr prog 90 [.agg [.own 0,.own 1,.own 2,.own 3,.dat (.int .i64 x.Clock.Epoch),.own 4,.own 5,.own 6],.one (.dat (.int .i64 k))] [.vec 1 true (x.Mem.Heap.Bytes.map encI),.vec 1 true (x.Mem.Heap.Class.map encI),.vec 1 true (x.Mem.Lists.Global.map encSList),.vec 1 true (x.Mem.Lists.Own.map encSList),.vec 4 true (x.Clock.Pins.map encPin),.vec 1 true (x.Limbo.map encLList),.vec 1 true (x.Haz.map encI)] (.one (.dat (.int .i64 (k + (mcBase x:Int))))) [.dead,.dead,.dead,.dead,.dead,.dead,.dead]:=by
 have hmc:mcBase x=mcMem x.Mem + mcClock x.Clock + cntLListS x.Limbo + 1 * x.Haz.length:=rfl
 obtain ⟨q0,q1,q2,q3,q4,_⟩:=hx
 refine Ctr.bg mixed func90 rfl ?_
 refine evl ?_
 refine scs ?_
 refine CallK_os [0,1,2,3] e178 (by simp [osOk,St.obj,find]) (c178 x.Mem q0 (k) (by omega) (by omega)) rfl ?_
 refine evl ?_
 refine scs ?_
 refine CallK_os [4] e179 (by simp [osOk,St.obj,find]) (c179 x.Clock q1 ((k + (mcMem x.Mem:Int))) (by omega) (by omega)) rfl ?_
 refine evl ?_
 refine scs ?_
 refine CallK_os [5] e180 (by simp [osOk,St.obj,find]) (c180_v x.Limbo q2 q3 (((k + (mcMem x.Mem:Int)) + (mcClock x.Clock:Int))) (by omega) (by omega)) rfl ?_
 refine evl ?_
 refine scs ?_
 refine CallK_os [6] e91 (by simp [osOk,St.obj,find]) (c91_v x.Haz ((((k + (mcMem x.Mem:Int)) + (mcClock x.Clock:Int)) + (cntLListS x.Limbo:Int))) (by omega) (by omega)) rfl ?_
 refine evl ?_
 rw [show ((((k + (mcMem x.Mem:Int)) + (mcClock x.Clock:Int)) + (cntLListS x.Limbo:Int)) + 1 * (x.Haz.length:Int))=k + (mcBase x:Int) by omega]
 refine Fin.nt results90 [0,1,2,3,4,5,6] ?_ ?_ ?_ <;> try trivial
 all_goals exact entd
theorem c181_v (l:List Op) (k:Int) (hk0:0 <= k) (hk:k + 4 * l.length <= 4611686018427387904):Ctr prog 181 [.one (.own 0),.one (.dat (.int .i64 k))] [.vec 4 true (l.map encOp)] (.one (.dat (.int .i64 (k + 4 * l.length)))) [.dead]:=Ctr.drop (c181 l k hk0 hk) rfl
theorem c181_g (l:List Op) (k:Int) (hk0:0 <= k) (hk:k + 4 * l.length <= 4611686018427387904):Ctr prog 181 [.one (.own 0),.one (.dat (.int .i64 k))] [lent 4 (l.map encOp)] (.one (.dat (.int .i64 (k + 4 * l.length)))) [.dead]:=by
 exact c181_v l k hk0 hk
theorem c93_v (l:List Queue) (hl:l.length <= 1048576) (hq:∀ x ∈ l,x.sok) (k:Int) (hk0:0 <= k) (hk:k + (cntQueueS l:Int) <= 4611686018427387904):Ctr prog 93 [.one (.own 0),.one (.dat (.int .i64 k))] [.vec 1 true (l.map encQueue)] (.one (.dat (.int .i64 (k + (cntQueueS l:Int))))) [.dead]:=by
 refine Ctr.bg mixed func93 rfl ?_
 refine evl ?_
 refine LoopK_intro (fun zn zs=>∃ (i:Nat) (R:List (List D)) (kk:Int),i <= l.length /\ zn=l.length - i /\ (R.length=l.length /\ R.drop i=(l.drop i).map encQueue /\ 0 <= kk /\ kk + (cntQueueS (l.drop i):Int)=k + (cntQueueS l:Int)) /\ zs=mkSt [(5,.one (.dat (.int .i64 i))),(1,.one (.dat (.int .i64 kk))),(0,.one (.own 0))] [.vec 1 true R]) l.length _
  (Ent.wk [0]) ⟨0,l.map encQueue,k,by omega,by omega,⟨by simp,rfl,hk0,rfl⟩,rfl⟩ ?_
 rintro zn zs ⟨i,R,kk,hi,rfl,⟨hR1,hR2,hk1,hk2⟩,rfl⟩ K hK
 rcases Nat.lt_or_ge i l.length with hlt | hge
 ·have hd:decide ((i:Int) < ((l.length:Nat):Int))=true:=decide_eq_true (by omega)
  have hw:=wrap_succ hlt (show l.length <= maxLen by unfold maxLen;omega)
  have hqx:=hq l[i] (List.getElem_mem hlt)
  rw [List.drop_eq_getElem_cons hlt] at hk2 hR2
  rw [List.map_cons] at hR2
  generalize l[i]=x at hk2 hR2 hqx
  obtain ⟨q0,_⟩:=hqx
  rw [cntQueueS_cons] at hk2
  have hcx:cntQueue x=4 * x.Ops.length:=rfl
  have hA:(R.take i).length=i:=by rw [List.length_take];omega
  have hR:R=R.take i ++ encQueue x :: (l.drop (i + 1)).map encQueue:=by rw [<- hR2,List.take_append_drop]
  generalize hB:(l.drop (i + 1)).map encQueue=B at hR
  generalize R.take i=A at hA hR
  subst hR
  have hl1:∀ y,(A ++ y :: B).length=l.length:=fun y=>by rw [List.length_append,List.length_cons] at hR1 ⊢;exact hR1
  clear hR2
  refine sv9 ?_
  refine scs ?_
  intro v0
  try (refine sv9 ?_)
  refine scs ?_
  refine CallK_os [1] e181 (by simp [osOk,St.obj,find]) (c181_g x.Ops (kk) (by omega) (by omega)) rfl ?_
  refine sv9 ?_
  refine scs ?_
  apply hK
  refine ⟨l.length - (i + 1),_,by omega,Ent.wk [0] (h4:=objsLe_one (Nat.zero_lt_succ _) rfl),i + 1,_,(kk + 4 * (x.Ops.length:Int)),by omega,rfl,⟨hl1 _,?_,by omega,by omega⟩,rfl⟩
  rw [drop_mid hA,hB]
 ·have hge':i=l.length:=by omega
  subst hge'
  rw [List.drop_length] at hk2
  have hkk:kk=k + (cntQueueS l:Int):=by rw [<- hk2];simp [cntQueueS]
  have hd:decide (((l.length:Nat):Int) < ((l.length:Nat):Int))=false:=by simp
  refine sv7 ?_
  apply hK
  refine evl ?_
  rw [hkk]
  refine Fin.nt results93 [0] ?_ ?_ ?_ <;> try trivial
  all_goals exact entd
theorem c92_v (l:List Job) (k:Int) (hk0:0 <= k) (hk:k + 21 * l.length <= 4611686018427387904):Ctr prog 92 [.one (.own 0),.one (.dat (.int .i64 k))] [.vec 21 true (l.map encJob)] (.one (.dat (.int .i64 (k + 21 * l.length)))) [.dead]:=by
 refine Ctr.bg mixed func92 rfl ?_
 refine evl ?_
 refine LoopK_intro (fun zn zs=>∃ (i:Nat) (R:List (List D)) (kk:Int),i <= l.length /\ zn=l.length - i /\ (R.length=l.length /\ R.drop i=(l.drop i).map encJob /\ kk=k + 21 * (i:Int)) /\ zs=mkSt [(5,.one (.dat (.int .i64 i))),(1,.one (.dat (.int .i64 kk))),(0,.one (.own 0))] [.vec 21 true R]) l.length _
  (Ent.wk [0]) ⟨0,l.map encJob,k,by omega,by omega,⟨by simp,rfl,by omega⟩,rfl⟩ ?_
 rintro zn zs ⟨i,R,kk,hi,rfl,⟨hR1,hR2,hk2⟩,rfl⟩ K hK
 rcases Nat.lt_or_ge i l.length with hlt | hge
 ·have hd:decide ((i:Int) < ((l.length:Nat):Int))=true:=decide_eq_true (by omega)
  have hw:=wrap_succ hlt (show l.length <= maxLen by unfold maxLen;omega)
  rw [List.drop_eq_getElem_cons hlt] at hR2
  rw [List.map_cons] at hR2
  generalize l[i]=x at hR2
  have hA:(R.take i).length=i:=by rw [List.length_take];omega
  have hR:R=R.take i ++ encJob x :: (l.drop (i + 1)).map encJob:=by rw [<- hR2,List.take_append_drop]
  generalize hB:(l.drop (i + 1)).map encJob=B at hR
  generalize R.take i=A at hA hR
  subst hR
  have hl1:∀ y,(A ++ y :: B).length=l.length:=fun y=>by rw [List.length_append,List.length_cons] at hR1 ⊢;exact hR1
  clear hR2
  obtain ⟨k0,hk0e⟩:∃ z,z=kk + 1:=⟨_,rfl⟩
  have hw0:IntKind.i64.wrap (kk + 1)=k0:=by rw [hk0e,IntKind.wrap_i64];omega
  obtain ⟨k1,hk1e⟩:∃ z,z=k0 + 1:=⟨_,rfl⟩
  have hw1:IntKind.i64.wrap (k0 + 1)=k1:=by rw [hk1e,IntKind.wrap_i64];omega
  obtain ⟨k2,hk2e⟩:∃ z,z=k1 + 1:=⟨_,rfl⟩
  have hw2:IntKind.i64.wrap (k1 + 1)=k2:=by rw [hk2e,IntKind.wrap_i64];omega
  obtain ⟨k3,hk3e⟩:∃ z,z=k2 + 1:=⟨_,rfl⟩
  have hw3:IntKind.i64.wrap (k2 + 1)=k3:=by rw [hk3e,IntKind.wrap_i64];omega
  obtain ⟨k4,hk4e⟩:∃ z,z=k3 + 1:=⟨_,rfl⟩
  have hw4:IntKind.i64.wrap (k3 + 1)=k4:=by rw [hk4e,IntKind.wrap_i64];omega
  obtain ⟨k5,hk5e⟩:∃ z,z=k4 + 1:=⟨_,rfl⟩
  have hw5:IntKind.i64.wrap (k4 + 1)=k5:=by rw [hk5e,IntKind.wrap_i64];omega
  obtain ⟨k6,hk6e⟩:∃ z,z=k5 + 1:=⟨_,rfl⟩
  have hw6:IntKind.i64.wrap (k5 + 1)=k6:=by rw [hk6e,IntKind.wrap_i64];omega
  obtain ⟨k7,hk7e⟩:∃ z,z=k6 + 1:=⟨_,rfl⟩
  have hw7:IntKind.i64.wrap (k6 + 1)=k7:=by rw [hk7e,IntKind.wrap_i64];omega
  obtain ⟨k8,hk8e⟩:∃ z,z=k7 + 1:=⟨_,rfl⟩
  have hw8:IntKind.i64.wrap (k7 + 1)=k8:=by rw [hk8e,IntKind.wrap_i64];omega
  obtain ⟨k9,hk9e⟩:∃ z,z=k8 + 1:=⟨_,rfl⟩
  have hw9:IntKind.i64.wrap (k8 + 1)=k9:=by rw [hk9e,IntKind.wrap_i64];omega
  obtain ⟨k10,hk10e⟩:∃ z,z=k9 + 1:=⟨_,rfl⟩
  have hw10:IntKind.i64.wrap (k9 + 1)=k10:=by rw [hk10e,IntKind.wrap_i64];omega
  obtain ⟨k11,hk11e⟩:∃ z,z=k10 + 1:=⟨_,rfl⟩
  have hw11:IntKind.i64.wrap (k10 + 1)=k11:=by rw [hk11e,IntKind.wrap_i64];omega
  obtain ⟨k12,hk12e⟩:∃ z,z=k11 + 1:=⟨_,rfl⟩
  have hw12:IntKind.i64.wrap (k11 + 1)=k12:=by rw [hk12e,IntKind.wrap_i64];omega
  obtain ⟨k13,hk13e⟩:∃ z,z=k12 + 1:=⟨_,rfl⟩
  have hw13:IntKind.i64.wrap (k12 + 1)=k13:=by rw [hk13e,IntKind.wrap_i64];omega
  obtain ⟨k14,hk14e⟩:∃ z,z=k13 + 1:=⟨_,rfl⟩
  have hw14:IntKind.i64.wrap (k13 + 1)=k14:=by rw [hk14e,IntKind.wrap_i64];omega
  obtain ⟨k15,hk15e⟩:∃ z,z=k14 + 1:=⟨_,rfl⟩
  have hw15:IntKind.i64.wrap (k14 + 1)=k15:=by rw [hk15e,IntKind.wrap_i64];omega
  obtain ⟨k16,hk16e⟩:∃ z,z=k15 + 1:=⟨_,rfl⟩
  have hw16:IntKind.i64.wrap (k15 + 1)=k16:=by rw [hk16e,IntKind.wrap_i64];omega
  obtain ⟨k17,hk17e⟩:∃ z,z=k16 + 1:=⟨_,rfl⟩
  have hw17:IntKind.i64.wrap (k16 + 1)=k17:=by rw [hk17e,IntKind.wrap_i64];omega
  obtain ⟨k18,hk18e⟩:∃ z,z=k17 + 1:=⟨_,rfl⟩
  have hw18:IntKind.i64.wrap (k17 + 1)=k18:=by rw [hk18e,IntKind.wrap_i64];omega
  obtain ⟨k19,hk19e⟩:∃ z,z=k18 + 1:=⟨_,rfl⟩
  have hw19:IntKind.i64.wrap (k18 + 1)=k19:=by rw [hk19e,IntKind.wrap_i64];omega
  obtain ⟨k20,hk20e⟩:∃ z,z=k19 + 1:=⟨_,rfl⟩
  have hw20:IntKind.i64.wrap (k19 + 1)=k20:=by rw [hk20e,IntKind.wrap_i64];omega
  simp (maxSteps:=2000000) only [go_sem,seval,hl1,hd,set_mid hA,getD_mid hA,encJob,hw,D.flat,hw0,hw1,hw2,hw3,hw4,hw5,hw6,hw7,hw8,hw9,hw10,hw11,hw12,hw13,hw14,hw15,hw16,hw17,hw18,hw19,hw20]
  refine scs ?_
  apply hK
  refine ⟨l.length - (i + 1),_,by omega,Ent.wk [0] (h4:=objsLe_one (Nat.zero_lt_succ _) rfl),i + 1,_,k20,by omega,rfl,⟨hl1 _,?_,by omega⟩,rfl⟩
  rw [drop_mid hA,hB]
 ·have hge':i=l.length:=by omega
  subst hge'
  have hd:decide (((l.length:Nat):Int) < ((l.length:Nat):Int))=false:=by simp
  refine sv7 ?_
  apply hK
  refine evl ?_
  rw [hk2]
  refine Fin.nt results92 [0] ?_ ?_ ?_ <;> try trivial
  all_goals exact entd
theorem c94_v (l:List Ev) (k:Int) (hk0:0 <= k) (hk:k + 7 * l.length <= 4611686018427387904):Ctr prog 94 [.one (.own 0),.one (.dat (.int .i64 k))] [.vec 7 true (l.map encEv)] (.one (.dat (.int .i64 (k + 7 * l.length)))) [.dead]:=Ctr.drop (c94 l k hk0 hk) rfl
theorem c33 (x:Shelf) (hx:x.sok) (k:Int) (hk0:0 <= k) (hk:k + (mcShelf x:Int) <= 4611686018427387904):Ctr prog 33 [.agg [.own 0,.own 1,.own 2,.own 3,.dat (.int .i64 x.Base.Clock.Epoch),.own 4,.own 5,.own 6,.own 7,.own 8,.own 9,.own 10,.dat (.int .i64 x.Serial)],.one (.dat (.int .i64 k))] [.vec 1 true (x.Base.Mem.Heap.Bytes.map encI),.vec 1 true (x.Base.Mem.Heap.Class.map encI),.vec 1 true (x.Base.Mem.Lists.Global.map encSList),.vec 1 true (x.Base.Mem.Lists.Own.map encSList),.vec 4 true (x.Base.Clock.Pins.map encPin),.vec 1 true (x.Base.Limbo.map encLList),.vec 1 true (x.Base.Haz.map encI),.vec 1 true (x.Cells.map encI),.vec 21 true (x.Jobs.map encJob),.vec 1 true (x.Todo.map encQueue),.vec 7 true (x.Log.map encEv)] (.one (.dat (.int .i64 (k + (mcShelf x:Int))))) [.dead,.dead,.dead,.dead,.dead,.dead,.dead,.dead,.dead,.dead,.dead]:=by
 have hmc:mcShelf x=mcBase x.Base + 1 * x.Cells.length + 21 * x.Jobs.length + cntQueueS x.Todo + 7 * x.Log.length:=rfl
 obtain ⟨q0,q1,q2,q3,q4,q5,_⟩:=hx
 refine Ctr.bg mixed func33 rfl ?_
 refine evl ?_
 refine scs ?_
 refine CallK_os [0,1,2,3,4,5,6] e90 (by simp [osOk,St.obj,find]) (c90 x.Base q0 (k) (by omega) (by omega)) rfl ?_
 refine evl ?_
 refine scs ?_
 refine CallK_os [7] e91 (by simp [osOk,St.obj,find]) (c91_v x.Cells ((k + (mcBase x.Base:Int))) (by omega) (by omega)) rfl ?_
 refine evl ?_
 refine scs ?_
 refine CallK_os [8] e92 (by simp [osOk,St.obj,find]) (c92_v x.Jobs (((k + (mcBase x.Base:Int)) + 1 * (x.Cells.length:Int))) (by omega) (by omega)) rfl ?_
 refine evl ?_
 refine scs ?_
 refine CallK_os [9] e93 (by simp [osOk,St.obj,find]) (c93_v x.Todo q3 q4 ((((k + (mcBase x.Base:Int)) + 1 * (x.Cells.length:Int)) + 21 * (x.Jobs.length:Int))) (by omega) (by omega)) rfl ?_
 refine evl ?_
 refine scs ?_
 refine CallK_os [10] e94 (by simp [osOk,St.obj,find]) (c94_v x.Log (((((k + (mcBase x.Base:Int)) + 1 * (x.Cells.length:Int)) + 21 * (x.Jobs.length:Int)) + (cntQueueS x.Todo:Int))) (by omega) (by omega)) rfl ?_
 refine evl ?_
 rw [show (((((k + (mcBase x.Base:Int)) + 1 * (x.Cells.length:Int)) + 21 * (x.Jobs.length:Int)) + (cntQueueS x.Todo:Int)) + 7 * (x.Log.length:Int))=k + (mcShelf x:Int) by omega]
 refine Fin.nt results33 [0,1,2,3,4,5,6,7,8,9,10] ?_ ?_ ?_ <;> try trivial
 all_goals exact entd
end Go.Proofs.YtcnddedeeplbcaaGreat.Mod
