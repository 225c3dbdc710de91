/- Contracts: Fam3. -/
import Derived.Test.YtkmmgklnoagedaaGreatRows
import Derived.Test.YtkmmgklnoagedaaGreatBTy
import Derived.Test.YtkmmgklnoagedaaGreatAbsTac
import Derived.Test.YtkmmgklnoagedaaGreatAbsData
import Derived.Test.YtkmmgklnoagedaaGreatBFam2
import Derived.WalkKit
import Derived.ProofKit
import Derived.OpenShut
namespace Go.Proofs.YtkmmgklnoagedaaGreat.Mod
open Go.Proofs.Tryz Go.Abs Go.Proofs.YtkmmgklnoagedaaGreat.Ty Go.ChangeShapes Go.WideShapes Go.ChangeAt Go.RowKit
set_option linter.unusedSimpArgs false
set_option linter.unusedVariables false
set_option maxHeartbeats 8000000
set_option maxRecDepth 100000
def markInts (k : Int) (n : Nat) : List (List D) := (List.range n).map fun i => encI (k + 1 * (i : Nat))
theorem drop_mid {α : Type} {A B : List α} {i : Nat} {x : α} (h : A.length = i) : (A ++ x :: B).drop (i + 1) = B := by
 subst h; rw [List.drop_append]; simp
def Heap.sok (x : Heap) : Prop := x.Bytes.length <= 1048576 /\ x.Class.length <= 1048576 /\ True
theorem Heap.sok_of {x : Heap} (h : sizHeap x <= 1048576) : x.sok := by
 unfold sizHeap at h
 exact ⟨by omega, by omega, trivial⟩
def mcHeap (x : Heap) : Nat := 1 * x.Bytes.length + 1 * x.Class.length
theorem mcHeap_le (x : Heap) : mcHeap x <= 32 * sizHeap x := by
 unfold mcHeap sizHeap
 omega
def SList.sok (x : SList) : Prop := x.Slots.length <= 1048576 /\ True
theorem SList.sok_of {x : SList} (h : sizSList x <= 1048576) : x.sok := by
 unfold sizSList at h
 exact ⟨by omega, trivial⟩
def cntSList (x : SList) : Nat := 1 * x.Slots.length
def cntSListS (l : List SList) : Nat := (l.map cntSList).sum
theorem cntSListS_cons (x : SList) (l : List SList) : cntSListS (x :: l) = cntSList x + cntSListS l := by simp [cntSListS]
theorem cntSList_le (x : SList) : cntSList x <= 32 * (1 + sizSList x) := by
 unfold cntSList sizSList
 omega
theorem cntSListS_le (l : List SList) : cntSListS l <= 32 * sizSListS l := by
 unfold sizSListS
 induction l with
 | nil => simp [cntSListS]
 | cons x l ih =>
  have := cntSList_le x
  rw [cntSListS_cons, List.length_cons, List.map_cons, List.sum_cons]
  omega
def Lists.sok (x : Lists) : Prop := x.Global.length <= 1048576 /\ (∀ y ∈ x.Global, y.sok) /\ x.Own.length <= 1048576 /\ (∀ y ∈ x.Own, y.sok) /\ True
theorem Lists.sok_of {x : Lists} (h : sizLists x <= 1048576) : x.sok := by
 unfold sizLists at h
 unfold sizSListS at h
 exact ⟨by omega, fun y hy => SList.sok_of (by have := sum_mem sizSList hy; omega), by omega, fun y hy => SList.sok_of (by have := sum_mem sizSList hy; omega), trivial⟩
def mcLists (x : Lists) : Nat := cntSListS x.Global + cntSListS x.Own
theorem mcLists_le (x : Lists) : mcLists x <= 32 * sizLists x := by
 have := cntSListS_le x.Global
 have := cntSListS_le x.Own
 unfold mcLists sizLists
 omega
def Mem.sok (x : Mem) : Prop := x.Heap.sok /\ x.Lists.sok /\ True
theorem Mem.sok_of {x : Mem} (h : sizMem x <= 1048576) : x.sok := by
 unfold sizMem at h
 exact ⟨Heap.sok_of (by omega), Lists.sok_of (by omega), trivial⟩
def mcMem (x : Mem) : Nat := mcHeap x.Heap + mcLists x.Lists
theorem mcMem_le (x : Mem) : mcMem x <= 32 * sizMem x := by
 have := mcHeap_le x.Heap
 have := mcLists_le x.Lists
 unfold mcMem sizMem
 omega
def Clock.sok (x : Clock) : Prop := x.Pins.length <= 1048576 /\ True
theorem Clock.sok_of {x : Clock} (h : sizClock x <= 1048576) : x.sok := by
 unfold sizClock at h
 exact ⟨by omega, trivial⟩
def mcClock (x : Clock) : Nat := 4 * x.Pins.length
theorem mcClock_le (x : Clock) : mcClock x <= 32 * sizClock x := by
 unfold mcClock sizClock
 omega
def LList.sok (x : LList) : Prop := x.Rows.length <= 1048576 /\ True
theorem LList.sok_of {x : LList} (h : sizLList x <= 1048576) : x.sok := by
 unfold sizLList at h
 exact ⟨by omega, trivial⟩
def cntLList (x : LList) : Nat := 2 * x.Rows.length
def cntLListS (l : List LList) : Nat := (l.map cntLList).sum
theorem cntLListS_cons (x : LList) (l : List LList) : cntLListS (x :: l) = cntLList x + cntLListS l := by simp [cntLListS]
theorem cntLList_le (x : LList) : cntLList x <= 32 * (1 + sizLList x) := by
 unfold cntLList sizLList
 omega
theorem cntLListS_le (l : List LList) : cntLListS l <= 32 * sizLListS l := by
 unfold sizLListS
 induction l with
 | nil => simp [cntLListS]
 | cons x l ih =>
  have := cntLList_le x
  rw [cntLListS_cons, List.length_cons, List.map_cons, List.sum_cons]
  omega
def Base.sok (x : Base) : Prop := x.Mem.sok /\ x.Clock.sok /\ x.Limbo.length <= 1048576 /\ (∀ y ∈ x.Limbo, y.sok) /\ x.Haz.length <= 1048576 /\ True
theorem Base.sok_of {x : Base} (h : sizBase x <= 1048576) : x.sok := by
 unfold sizBase at h
 unfold sizLListS at h
 exact ⟨Mem.sok_of (by omega), Clock.sok_of (by omega), by omega, fun y hy => LList.sok_of (by have := sum_mem sizLList hy; omega), by omega, trivial⟩
def mcBase (x : Base) : Nat := mcMem x.Mem + mcClock x.Clock + cntLListS x.Limbo + 1 * x.Haz.length
theorem mcBase_le (x : Base) : mcBase x <= 32 * sizBase x := by
 have := mcMem_le x.Mem
 have := mcClock_le x.Clock
 have := cntLListS_le x.Limbo
 unfold mcBase sizBase
 omega
def Batch.sok (x : Batch) : Prop := x.Cmds.length <= 1048576 /\ True
theorem Batch.sok_of {x : Batch} (h : sizBatch x <= 1048576) : x.sok := by
 unfold sizBatch at h
 exact ⟨by omega, trivial⟩
def cntBatch (x : Batch) : Nat := 1 + 3 * x.Cmds.length
def cntBatchS (l : List Batch) : Nat := (l.map cntBatch).sum
theorem cntBatchS_cons (x : Batch) (l : List Batch) : cntBatchS (x :: l) = cntBatch x + cntBatchS l := by simp [cntBatchS]
theorem cntBatch_le (x : Batch) : cntBatch x <= 32 * (1 + sizBatch x) := by
 unfold cntBatch sizBatch
 omega
theorem cntBatchS_le (l : List Batch) : cntBatchS l <= 32 * sizBatchS l := by
 unfold sizBatchS
 induction l with
 | nil => simp [cntBatchS]
 | cons x l ih =>
  have := cntBatch_le x
  rw [cntBatchS_cons, List.length_cons, List.map_cons, List.sum_cons]
  omega
def TQueue.sok (x : TQueue) : Prop := x.List.length <= 1048576 /\ (∀ y ∈ x.List, y.sok) /\ True
theorem TQueue.sok_of {x : TQueue} (h : sizTQueue x <= 1048576) : x.sok := by
 unfold sizTQueue at h
 unfold sizBatchS at h
 exact ⟨by omega, fun y hy => Batch.sok_of (by have := sum_mem sizBatch hy; omega), trivial⟩
def cntTQueue (x : TQueue) : Nat := cntBatchS x.List
def cntTQueueS (l : List TQueue) : Nat := (l.map cntTQueue).sum
theorem cntTQueueS_cons (x : TQueue) (l : List TQueue) : cntTQueueS (x :: l) = cntTQueue x + cntTQueueS l := by simp [cntTQueueS]
theorem cntTQueue_le (x : TQueue) : cntTQueue x <= 32 * (1 + sizTQueue x) := by
 have := cntBatchS_le x.List
 unfold cntTQueue sizTQueue
 omega
theorem cntTQueueS_le (l : List TQueue) : cntTQueueS l <= 32 * sizTQueueS l := by
 unfold sizTQueueS
 induction l with
 | nil => simp [cntTQueueS]
 | cons x l ih =>
  have := cntTQueue_le x
  rw [cntTQueueS_cons, List.length_cons, List.map_cons, List.sum_cons]
  omega
def TJob.sok (x : TJob) : Prop := x.Batch.sok /\ x.Reads.length <= 1048576 /\ x.Writes.length <= 1048576 /\ x.Res.length <= 1048576 /\ x.New.length <= 1048576 /\ x.Held.length <= 1048576 /\ x.Olds.length <= 1048576 /\ True
theorem TJob.sok_of {x : TJob} (h : sizTJob x <= 1048576) : x.sok := by
 unfold sizTJob at h
 exact ⟨Batch.sok_of (by omega), by omega, by omega, by omega, by omega, by omega, by omega, trivial⟩
def cntTJob (x : TJob) : Nat := 25 + 3 * x.Batch.Cmds.length + 2 * x.Reads.length + 3 * x.Writes.length + 2 * x.Res.length + 1 * x.New.length + 1 * x.Held.length + 1 * x.Olds.length
def cntTJobS (l : List TJob) : Nat := (l.map cntTJob).sum
theorem cntTJobS_cons (x : TJob) (l : List TJob) : cntTJobS (x :: l) = cntTJob x + cntTJobS l := by simp [cntTJobS]
theorem cntTJob_le (x : TJob) : cntTJob x <= 32 * (1 + sizTJob x) := by
 unfold cntTJob sizTJob
 unfold sizBatch
 omega
theorem cntTJobS_le (l : List TJob) : cntTJobS l <= 32 * sizTJobS l := by
 unfold sizTJobS
 induction l with
 | nil => simp [cntTJobS]
 | cons x l ih =>
  have := cntTJob_le x
  rw [cntTJobS_cons, List.length_cons, List.map_cons, List.sum_cons]
  omega
def TEv.sok (x : TEv) : Prop := x.Cmds.length <= 1048576 /\ x.Res.length <= 1048576 /\ True
theorem TEv.sok_of {x : TEv} (h : sizTEv x <= 1048576) : x.sok := by
 unfold sizTEv at h
 exact ⟨by omega, by omega, trivial⟩
def cntTEv (x : TEv) : Nat := 4 + 3 * x.Cmds.length + 2 * x.Res.length
def cntTEvS (l : List TEv) : Nat := (l.map cntTEv).sum
theorem cntTEvS_cons (x : TEv) (l : List TEv) : cntTEvS (x :: l) = cntTEv x + cntTEvS l := by simp [cntTEvS]
theorem cntTEv_le (x : TEv) : cntTEv x <= 32 * (1 + sizTEv x) := by
 unfold cntTEv sizTEv
 omega
theorem cntTEvS_le (l : List TEv) : cntTEvS l <= 32 * sizTEvS l := by
 unfold sizTEvS
 induction l with
 | nil => simp [cntTEvS]
 | cons x l ih =>
  have := cntTEv_le x
  rw [cntTEvS_cons, List.length_cons, List.map_cons, List.sum_cons]
  omega
def Table.sok (x : Table) : Prop := x.Base.sok /\ x.Bkts.length <= 1048576 /\ x.Jobs.length <= 1048576 /\ (∀ y ∈ x.Jobs, y.sok) /\ x.Todo.length <= 1048576 /\ (∀ y ∈ x.Todo, y.sok) /\ x.Log.length <= 1048576 /\ (∀ y ∈ x.Log, y.sok) /\ True
theorem Table.sok_of {x : Table} (h : sizTable x <= 1048576) : x.sok := by
 unfold sizTable at h
 unfold sizTEvS at h
 unfold sizTJobS at h
 unfold sizTQueueS at h
 exact ⟨Base.sok_of (by omega), by omega, by omega, fun y hy => TJob.sok_of (by have := sum_mem sizTJob hy; omega), by omega, fun y hy => TQueue.sok_of (by have := sum_mem sizTQueue hy; omega), by omega, fun y hy => TEv.sok_of (by have := sum_mem sizTEv hy; omega), trivial⟩
def mcTable (x : Table) : Nat := mcBase x.Base + 3 * x.Bkts.length + cntTJobS x.Jobs + cntTQueueS x.Todo + cntTEvS x.Log
theorem mcTable_le (x : Table) : mcTable x <= 32 * sizTable x := by
 have := mcBase_le x.Base
 have := cntTJobS_le x.Jobs
 have := cntTQueueS_le x.Todo
 have := cntTEvS_le x.Log
 unfold mcTable sizTable
 omega
theorem c103 (l : List Int) (k : Int) (hk0 : 0 <= k) (hk : k + 1 * l.length <= 4611686018427387904) : Ctr prog 103 [.one (.own 0), .one (.dat (.int .i64 k))] [.vec 1 true (l.map encI)] (.one (.dat (.int .i64 (k + 1 * l.length)))) [.vec 1 true (markInts k l.length)] := by
 refine Ctr.of_body mixed func103 rfl (by kernel_rfl) (Nat.le_of_ble_eq_true rfl) (by simp [AV.Clean, AV.Clean1, Leaf.Clean, D.flat]) (by simp [AObj.Sep]) (by simp) ?_ (by simp [AV.Low, AV.Low1, Leaf.Low]) ?_
 ·intro o ho
  have : o = 0 := by simpa using ho
  subst this
  simp [Objs, Compat, markInts]
 show wpA _ _ _ (FinQ _ _ _ _ _) _
 unfold markInts
 refine evl ?_
 refine LoopK_intro (fun n s => ∃ i : Nat, i <= l.length /\ n = l.length - i /\ s = mkSt [(5, .one (.dat (.int .i64 i))), (1, .one (.dat (.int .i64 (k + 1 * (i : Nat))))), (0, .one (.own 0))]
   [.vec 1 true ((List.range i).map (fun i => encI (k + 1 * (i : Nat))) ++ (l.drop i).map encI)]) l.length _
  (Ent.wk [0]) ⟨0, by omega, by omega, rfl⟩ ?_
 rintro n s ⟨i, hi, rfl, rfl⟩ K hK
 have hlen : ((List.range i).map (fun i => encI (k + 1 * (i : Nat))) ++ (l.drop i).map encI).length = l.length := by simp; omega
 rcases Nat.lt_or_ge i l.length with hlt | hge
 ·have hA : ((List.range i).map (fun i => encI (k + 1 * (i : Nat)))).length = i := by simp
  have hd : decide ((i : Int) < l.length) = true := by simpa using hlt
  have hw := wrap_succ hlt (show l.length <= maxLen by unfold maxLen; omega)
  have hw1 : IntKind.i64.wrap (k + 1 * (i : Int) + 1) = k + 1 * (i : Int) + 1 := by rw [IntKind.wrap_i64]; omega
  rw [List.drop_eq_getElem_cons hlt, List.map_cons] at hlen ⊢
  generalize hAd : (List.range i).map (fun i => encI (k + 1 * (i : Nat))) = A at hA hlen ⊢
  have hl1 : ∀ x, (A ++ x :: (l.drop (i + 1)).map encI).length = l.length := fun x => by
   rw [List.length_append, List.length_cons] at hlen ⊢; exact hlen
  simp (maxSteps := 2000000) only [go_sem, seval, hl1, hd, set_mid hA, getD_mid hA, encI, hw, hw1, D.flat]
  refine scs ?_
  apply hK
  refine ⟨l.length - (i + 1), _, by omega, Ent.weak (ids := [0]) (by simp) rfl (by simp) ?_ ?_ (by simp [objsLe, envLe, find, St.obj, AObj.renF, AV.renF, AV.renF1, Leaf.renF, LowAll, AV.Low, AV.Low1, Leaf.Low, AObj.Low, Ptr.renF, Ptr.Low]), i + 1, by omega, rfl, rfl⟩
  ·rw [List.range_succ, List.map_append, hAd]
   simp [objsLe, envLe, find, St.obj, AObj.renF, AV.renF, AV.renF1, Leaf.renF, LowAll, AV.Low, AV.Low1, Leaf.Low, AObj.Low, Ptr.renF, Ptr.Low]
   rfl
  ·simp [objsLe, envLe, find, St.obj, AObj.renF, AV.renF, AV.renF1, Leaf.renF, LowAll, AV.Low, AV.Low1, Leaf.Low, AObj.Low, Ptr.renF, Ptr.Low]
   omega
 ·have hge' : i = l.length := by omega
  subst hge'
  have hd : decide ((l.length : Int) < l.length) = false := by simp
  refine sv1 ?_
  apply hK
  refine evl ?_
  refine Fin.nt results103 [0] ?_ ?_ ?_ <;> try trivial
  rw [List.drop_length, List.map_nil, List.append_nil]
  simp [objsLe, envLe, find, St.obj, AObj.renF, AV.renF, AV.renF1, Leaf.renF, LowAll, AV.Low, AV.Low1, Leaf.Low, AObj.Low, Ptr.renF, Ptr.Low]
theorem c110 (n : Nat) (k : Int) (hk0 : 0 <= k) (hk : k + 1 * n <= 4611686018427387904) : Ctr prog 110 [.one (.dat (.sl 1 (markInts k n))), .one (.dat (.int .i64 k))] [] (.one (.dat (.int .i64 (k + 1 * n)))) [] := by
 refine Ctr.bd mixed func110 rfl ?_
 unfold markInts
 refine evl ?_
 refine LoopK_intro (fun m s => ∃ i : Nat, i <= n /\ m = n - i /\ s = mkSt [(5, .one (.dat (.int .i64 i))), (1, .one (.dat (.int .i64 (k + 1 * (i : Nat))))), (0, .one (.dat (.sl 1 ((List.range n).map fun i => encI (k + 1 * (i : Nat))))))] []) n _
  (Ent.wk []) ⟨0, by omega, by omega, rfl⟩ ?_
 rintro m s ⟨i, hi, rfl, rfl⟩ K hK
 have hlen : ((List.range n).map fun i => encI (k + 1 * (i : Nat))).length = n := by simp
 rcases Nat.lt_or_ge i n with hlt | hge
 ·have hd : decide ((i : Int) < n) = true := by simpa using hlt
  have hw := wrap_succ hlt (show n <= maxLen by unfold maxLen; omega)
  have hw1 : IntKind.i64.wrap (k + 1 * (i : Int) + 1) = k + 1 * (i : Int) + 1 := by rw [IntKind.wrap_i64]; omega
  have hg : ((List.range n).map fun i => encI (k + 1 * (i : Nat))).getD i [] = encI (k + 1 * (i : Nat)) := getD_range hlt
  generalize ((List.range n).map fun i => encI (k + 1 * (i : Nat))) = L at hlen hg hK ⊢
  simp (maxSteps := 2000000) only [go_sem, seval, hlen, hd, hg, encI, hw, hw1]
  refine scs ?_
  apply hK
  refine ⟨n - (i + 1), _, by omega, Ent.weak (ids := []) (by simp) rfl (by simp) (by simp [objsLe, envLe, find, St.obj, AObj.renF, AV.renF, AV.renF1, Leaf.renF, LowAll, AV.Low, AV.Low1, Leaf.Low, AObj.Low, Ptr.renF, Ptr.Low]) (by simp [objsLe, envLe, find, St.obj, AObj.renF, AV.renF, AV.renF1, Leaf.renF, LowAll, AV.Low, AV.Low1, Leaf.Low, AObj.Low, Ptr.renF, Ptr.Low]; omega) (by simp [objsLe, envLe, find, St.obj, AObj.renF, AV.renF, AV.renF1, Leaf.renF, LowAll, AV.Low, AV.Low1, Leaf.Low, AObj.Low, Ptr.renF, Ptr.Low]), i + 1, by omega, rfl, rfl⟩
 ·have hge' : i = n := by omega
  subst hge'
  have hd : decide ((i : Int) < i) = false := by simp
  refine sv2 ?_
  apply hK
  refine evl ?_
  refine Fin.nt results110 [] ?_ ?_ ?_ <;> try trivial
theorem c99_v (l : List Cmd) (k : Int) (hk0 : 0 <= k) (hk : k + 3 * l.length <= 4611686018427387904) : Ctr prog 99 [.one (.own 0), .one (.dat (.int .i64 k))] [.vec 3 true (l.map encCmd)] (.one (.dat (.int .i64 (k + 3 * l.length)))) [.dead] := Ctr.drop (c99 l k hk0 hk) rfl
theorem c99_g (l : List Cmd) (k : Int) (hk0 : 0 <= k) (hk : k + 3 * l.length <= 4611686018427387904) : Ctr prog 99 [.one (.own 0), .one (.dat (.int .i64 k))] [lent 3 (l.map encCmd)] (.one (.dat (.int .i64 (k + 3 * l.length)))) [.dead] := by
 cases l with
 | cons x l => exact c99_v (x :: l) k hk0 hk
 | nil =>
  show Ctr prog 99 [.one (.own 0), .one (.dat (.int .i64 k))] [.frz 3 []] (.one (.dat (.int .i64 (k + 3 * ((0 : Nat) : Int))))) [.dead]
  rw [show k + 3 * ((0 : Nat) : Int) = k by omega]
  refine Ctr.bg mixed func99 rfl ?_
  refine evl ?_
  refine LoopK_intro (fun zn zs => zn = 0 /\ zs = mkSt [(5, .one (.dat (.int .i64 0))), (1, .one (.dat (.int .i64 k))), (0, .one (.own 0))] [.frz 3 []]) 0 _ (Ent.wk [0]) ⟨rfl, rfl⟩ ?_
  rintro zn zs ⟨rfl, rfl⟩ K hK
  have hd0 : decide ((0 : Int) < ((0 : Nat) : Int)) = false := rfl
  refine sv5 ?_
  apply hK
  refine evl ?_
  refine Fin.nt results99 [0] ?_ ?_ ?_ <;> try trivial
  all_goals exact entd
theorem c37_v (l : List Batch) (hl : l.length <= 1048576) (hq : ∀ x ∈ l, x.sok) (k : Int) (hk0 : 0 <= k) (hk : k + (cntBatchS l : Int) <= 4611686018427387904) : Ctr prog 37 [.one (.own 0), .one (.dat (.int .i64 k))] [.vec 2 true (l.map encBatch)] (.one (.dat (.int .i64 (k + (cntBatchS l : Int))))) [.dead] := by
 refine Ctr.bg mixed func37 rfl ?_
 refine evl ?_
 refine LoopK_intro (fun zn zs => ∃ (i : Nat) (R : List (List D)) (kk : Int), i <= l.length /\ zn = l.length - i /\ (R.length = l.length /\ R.drop i = (l.drop i).map encBatch /\ 0 <= kk /\ kk + (cntBatchS (l.drop i) : Int) = k + (cntBatchS l : Int)) /\ zs = mkSt [(5, .one (.dat (.int .i64 i))), (1, .one (.dat (.int .i64 kk))), (0, .one (.own 0))] [.vec 2 true R]) l.length _
  (Ent.wk [0]) ⟨0, l.map encBatch, k, by omega, by omega, ⟨by simp, rfl, hk0, rfl⟩, rfl⟩ ?_
 rintro zn zs ⟨i, R, kk, hi, rfl, ⟨hR1, hR2, hk1, hk2⟩, rfl⟩ K hK
 rcases Nat.lt_or_ge i l.length with hlt | hge
 ·have hd : decide ((i : Int) < ((l.length : Nat) : Int)) = true := decide_eq_true (by omega)
  have hw := wrap_succ hlt (show l.length <= maxLen by unfold maxLen; omega)
  have hqx := hq l[i] (List.getElem_mem hlt)
  rw [List.drop_eq_getElem_cons hlt] at hk2 hR2
  rw [List.map_cons] at hR2
  generalize l[i] = x at hk2 hR2 hqx
  obtain ⟨q0, _⟩ := hqx
  rw [cntBatchS_cons] at hk2
  have hcx : cntBatch x = 1 + 3 * x.Cmds.length := rfl
  have hA : (R.take i).length = i := by rw [List.length_take]; omega
  have hR : R = R.take i ++ encBatch x :: (l.drop (i + 1)).map encBatch := by rw [<- hR2, List.take_append_drop]
  generalize hB : (l.drop (i + 1)).map encBatch = B at hR
  generalize R.take i = A at hA hR
  subst hR
  have hl1 : ∀ y, (A ++ y :: B).length = l.length := fun y => by rw [List.length_append, List.length_cons] at hR1 ⊢; exact hR1
  clear hR2
  obtain ⟨k1, hk1e⟩ : ∃ z, z = kk + 1 := ⟨_, rfl⟩
  have hw1 : IntKind.i64.wrap (kk + 1) = k1 := by rw [hk1e, IntKind.wrap_i64]; omega
  refine sv6 ?_
  refine scs ?_
  intro v0
  try (refine sv6 ?_)
  refine scs ?_
  refine CallK_os [1] e99 (by simp [osOk, St.obj, find]) (c99_g x.Cmds (k1) (by omega) (by omega)) rfl ?_
  refine sv6 ?_
  refine scs ?_
  apply hK
  refine ⟨l.length - (i + 1), _, by omega, Ent.wk [0] (h4 := objsLe_one (Nat.zero_lt_succ _) rfl), i + 1, _, (k1 + 3 * (x.Cmds.length : Int)), by omega, rfl, ⟨hl1 _, ?_, by omega, by omega⟩, rfl⟩
  rw [drop_mid hA, hB]
 ·have hge' : i = l.length := by omega
  subst hge'
  rw [List.drop_length] at hk2
  have hkk : kk = k + (cntBatchS l : Int) := by rw [<- hk2]; simp [cntBatchS]
  have hd : decide (((l.length : Nat) : Int) < ((l.length : Nat) : Int)) = false := by simp
  simp (maxSteps := 2000000) only [go_sem, seval, hR1, hd]
  apply hK
  refine evl ?_
  rw [hkk]
  refine Fin.nt results37 [0] ?_ ?_ ?_ <;> try trivial
  all_goals exact entd
theorem c37_g (l : List Batch) (hl : l.length <= 1048576) (hq : ∀ x ∈ l, x.sok) (k : Int) (hk0 : 0 <= k) (hk : k + (cntBatchS l : Int) <= 4611686018427387904) : Ctr prog 37 [.one (.own 0), .one (.dat (.int .i64 k))] [lent 2 (l.map encBatch)] (.one (.dat (.int .i64 (k + (cntBatchS l : Int))))) [.dead] := by
 cases l with
 | cons x l => exact c37_v (x :: l) hl hq k hk0 hk
 | nil =>
  show Ctr prog 37 [.one (.own 0), .one (.dat (.int .i64 k))] [.frz 2 []] (.one (.dat (.int .i64 (k + (cntBatchS [] : Int))))) [.dead]
  rw [show k + (cntBatchS [] : Int) = k by simp [cntBatchS]]
  refine Ctr.bg mixed func37 rfl ?_
  refine evl ?_
  refine LoopK_intro (fun zn zs => zn = 0 /\ zs = mkSt [(5, .one (.dat (.int .i64 0))), (1, .one (.dat (.int .i64 k))), (0, .one (.own 0))] [.frz 2 []]) 0 _ (Ent.wk [0]) ⟨rfl, rfl⟩ ?_
  rintro zn zs ⟨rfl, rfl⟩ K hK
  have hd0 : decide ((0 : Int) < ((0 : Nat) : Int)) = false := rfl
  refine sv5 ?_
  apply hK
  refine evl ?_
  refine Fin.nt results37 [0] ?_ ?_ ?_ <;> try trivial
  all_goals exact entd
theorem c12_v (l : List TQueue) (hl : l.length <= 1048576) (hq : ∀ x ∈ l, x.sok) (k : Int) (hk0 : 0 <= k) (hk : k + (cntTQueueS l : Int) <= 4611686018427387904) : Ctr prog 12 [.one (.own 0), .one (.dat (.int .i64 k))] [.vec 1 true (l.map encTQueue)] (.one (.dat (.int .i64 (k + (cntTQueueS l : Int))))) [.dead] := by
 refine Ctr.bg mixed func12 rfl ?_
 refine evl ?_
 refine LoopK_intro (fun zn zs => ∃ (i : Nat) (R : List (List D)) (kk : Int), i <= l.length /\ zn = l.length - i /\ (R.length = l.length /\ R.drop i = (l.drop i).map encTQueue /\ 0 <= kk /\ kk + (cntTQueueS (l.drop i) : Int) = k + (cntTQueueS l : Int)) /\ zs = mkSt [(5, .one (.dat (.int .i64 i))), (1, .one (.dat (.int .i64 kk))), (0, .one (.own 0))] [.vec 1 true R]) l.length _
  (Ent.wk [0]) ⟨0, l.map encTQueue, k, by omega, by omega, ⟨by simp, rfl, hk0, rfl⟩, rfl⟩ ?_
 rintro zn zs ⟨i, R, kk, hi, rfl, ⟨hR1, hR2, hk1, hk2⟩, rfl⟩ K hK
 rcases Nat.lt_or_ge i l.length with hlt | hge
 ·have hd : decide ((i : Int) < ((l.length : Nat) : Int)) = true := decide_eq_true (by omega)
  have hw := wrap_succ hlt (show l.length <= maxLen by unfold maxLen; omega)
  have hqx := hq l[i] (List.getElem_mem hlt)
  rw [List.drop_eq_getElem_cons hlt] at hk2 hR2
  rw [List.map_cons] at hR2
  generalize l[i] = x at hk2 hR2 hqx
  obtain ⟨q0, q1, _⟩ := hqx
  rw [cntTQueueS_cons] at hk2
  have hcx : cntTQueue x = cntBatchS x.List := rfl
  have hA : (R.take i).length = i := by rw [List.length_take]; omega
  have hR : R = R.take i ++ encTQueue x :: (l.drop (i + 1)).map encTQueue := by rw [<- hR2, List.take_append_drop]
  generalize hB : (l.drop (i + 1)).map encTQueue = B at hR
  generalize R.take i = A at hA hR
  subst hR
  have hl1 : ∀ y, (A ++ y :: B).length = l.length := fun y => by rw [List.length_append, List.length_cons] at hR1 ⊢; exact hR1
  clear hR2
  refine sv7 ?_
  refine scs ?_
  intro v0
  try (refine sv7 ?_)
  refine scs ?_
  refine CallK_os [1] e37 (by simp [osOk, St.obj, find]) (c37_g x.List q0 q1 (kk) (by omega) (by omega)) rfl ?_
  refine sv7 ?_
  refine scs ?_
  apply hK
  refine ⟨l.length - (i + 1), _, by omega, Ent.wk [0] (h4 := objsLe_one (Nat.zero_lt_succ _) rfl), i + 1, _, (kk + (cntBatchS x.List : Int)), by omega, rfl, ⟨hl1 _, ?_, by omega, by omega⟩, rfl⟩
  rw [drop_mid hA, hB]
 ·have hge' : i = l.length := by omega
  subst hge'
  rw [List.drop_length] at hk2
  have hkk : kk = k + (cntTQueueS l : Int) := by rw [<- hk2]; simp [cntTQueueS]
  have hd : decide (((l.length : Nat) : Int) < ((l.length : Nat) : Int)) = false := by simp
  simp (maxSteps := 2000000) only [go_sem, seval, hR1, hd]
  apply hK
  refine evl ?_
  rw [hkk]
  refine Fin.nt results12 [0] ?_ ?_ ?_ <;> try trivial
  all_goals exact entd
theorem c12_g (l : List TQueue) (hl : l.length <= 1048576) (hq : ∀ x ∈ l, x.sok) (k : Int) (hk0 : 0 <= k) (hk : k + (cntTQueueS l : Int) <= 4611686018427387904) : Ctr prog 12 [.one (.own 0), .one (.dat (.int .i64 k))] [lent 1 (l.map encTQueue)] (.one (.dat (.int .i64 (k + (cntTQueueS l : Int))))) [.dead] := by
 cases l with
 | cons x l => exact c12_v (x :: l) hl hq k hk0 hk
 | nil =>
  show Ctr prog 12 [.one (.own 0), .one (.dat (.int .i64 k))] [.frz 1 []] (.one (.dat (.int .i64 (k + (cntTQueueS [] : Int))))) [.dead]
  rw [show k + (cntTQueueS [] : Int) = k by simp [cntTQueueS]]
  refine Ctr.bg mixed func12 rfl ?_
  refine evl ?_
  refine LoopK_intro (fun zn zs => zn = 0 /\ zs = mkSt [(5, .one (.dat (.int .i64 0))), (1, .one (.dat (.int .i64 k))), (0, .one (.own 0))] [.frz 1 []]) 0 _ (Ent.wk [0]) ⟨rfl, rfl⟩ ?_
  rintro zn zs ⟨rfl, rfl⟩ K hK
  have hd0 : decide ((0 : Int) < ((0 : Nat) : Int)) = false := rfl
  refine sv5 ?_
  apply hK
  refine evl ?_
  refine Fin.nt results12 [0] ?_ ?_ ?_ <;> try trivial
  all_goals exact entd
end Go.Proofs.YtkmmgklnoagedaaGreat.Mod
