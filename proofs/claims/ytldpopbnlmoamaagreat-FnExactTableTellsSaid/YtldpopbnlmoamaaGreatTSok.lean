/- Contracts: Sok. -/
import Derived.Test.YtldpopbnlmoamaaGreatRows
import Derived.Test.YtldpopbnlmoamaaGreatTTy
import Derived.Test.YtldpopbnlmoamaaGreatAbsTac
import Derived.Test.YtldpopbnlmoamaaGreatAbsData
import Derived.Test.YtldpopbnlmoamaaGreatTFam2
import Derived.WalkKit
import Derived.ProofKit
import Derived.OpenShut
namespace Go.Proofs.YtldpopbnlmoamaaGreat.Mod
open Go.Proofs.Tryz Go.Abs Go.Proofs.YtldpopbnlmoamaaGreat.Ty Go.ChangeShapes Go.WideShapes Go.ChangeAt Go.RowKit
set_option linter.unusedSimpArgs false
set_option linter.unusedVariables false
set_option maxHeartbeats 8000000
set_option maxRecDepth 100000
def markInts (k : Int) (n : Nat) : List (List D) := (List.range n).map fun i => encI (k + 1 * (i : Nat))
theorem drop_mid {α : Type} {A B : List α} {i : Nat} {x : α} (h : A.length = i) : (A ++ x :: B).drop (i + 1) = B := by
 subst h; rw [List.drop_append]; simp
def Heap.sok (x : Heap) : Prop := x.Bytes.length <= 1048576 /\ x.Class.length <= 1048576 /\ True
theorem Heap.sok_of {x : Heap} (h : sizHeap x <= 1048576) : x.sok := by
 unfold sizHeap at h
 exact ⟨by omega, by omega, trivial⟩
def mcHeap (x : Heap) : Nat := 1 * x.Bytes.length + 1 * x.Class.length
theorem mcHeap_le (x : Heap) : mcHeap x <= 32 * sizHeap x := by
 unfold mcHeap sizHeap
 omega
def SList.sok (x : SList) : Prop := x.Slots.length <= 1048576 /\ True
theorem SList.sok_of {x : SList} (h : sizSList x <= 1048576) : x.sok := by
 unfold sizSList at h
 exact ⟨by omega, trivial⟩
def cntSList (x : SList) : Nat := 1 * x.Slots.length
def cntSListS (l : List SList) : Nat := (l.map cntSList).sum
theorem cntSListS_cons (x : SList) (l : List SList) : cntSListS (x :: l) = cntSList x + cntSListS l := by simp [cntSListS]
theorem cntSList_le (x : SList) : cntSList x <= 32 * (1 + sizSList x) := by
 unfold cntSList sizSList
 omega
theorem cntSListS_le (l : List SList) : cntSListS l <= 32 * sizSListS l := by
 unfold sizSListS
 induction l with
 | nil => simp [cntSListS]
 | cons x l ih =>
  have := cntSList_le x
  rw [cntSListS_cons, List.length_cons, List.map_cons, List.sum_cons]
  omega
def Lists.sok (x : Lists) : Prop := x.Global.length <= 1048576 /\ (∀ y ∈ x.Global, y.sok) /\ x.Own.length <= 1048576 /\ (∀ y ∈ x.Own, y.sok) /\ True
theorem Lists.sok_of {x : Lists} (h : sizLists x <= 1048576) : x.sok := by
 unfold sizLists at h
 unfold sizSListS at h
 exact ⟨by omega, fun y hy => SList.sok_of (by have := sum_mem sizSList hy; omega), by omega, fun y hy => SList.sok_of (by have := sum_mem sizSList hy; omega), trivial⟩
def mcLists (x : Lists) : Nat := cntSListS x.Global + cntSListS x.Own
theorem mcLists_le (x : Lists) : mcLists x <= 32 * sizLists x := by
 have := cntSListS_le x.Global
 have := cntSListS_le x.Own
 unfold mcLists sizLists
 omega
def Mem.sok (x : Mem) : Prop := x.Heap.sok /\ x.Lists.sok /\ True
theorem Mem.sok_of {x : Mem} (h : sizMem x <= 1048576) : x.sok := by
 unfold sizMem at h
 exact ⟨Heap.sok_of (by omega), Lists.sok_of (by omega), trivial⟩
def mcMem (x : Mem) : Nat := mcHeap x.Heap + mcLists x.Lists
theorem mcMem_le (x : Mem) : mcMem x <= 32 * sizMem x := by
 have := mcHeap_le x.Heap
 have := mcLists_le x.Lists
 unfold mcMem sizMem
 omega
def Clock.sok (x : Clock) : Prop := x.Pins.length <= 1048576 /\ True
theorem Clock.sok_of {x : Clock} (h : sizClock x <= 1048576) : x.sok := by
 unfold sizClock at h
 exact ⟨by omega, trivial⟩
def mcClock (x : Clock) : Nat := 4 * x.Pins.length
theorem mcClock_le (x : Clock) : mcClock x <= 32 * sizClock x := by
 unfold mcClock sizClock
 omega
def LList.sok (x : LList) : Prop := x.Rows.length <= 1048576 /\ True
theorem LList.sok_of {x : LList} (h : sizLList x <= 1048576) : x.sok := by
 unfold sizLList at h
 exact ⟨by omega, trivial⟩
def cntLList (x : LList) : Nat := 2 * x.Rows.length
def cntLListS (l : List LList) : Nat := (l.map cntLList).sum
theorem cntLListS_cons (x : LList) (l : List LList) : cntLListS (x :: l) = cntLList x + cntLListS l := by simp [cntLListS]
theorem cntLList_le (x : LList) : cntLList x <= 32 * (1 + sizLList x) := by
 unfold cntLList sizLList
 omega
theorem cntLListS_le (l : List LList) : cntLListS l <= 32 * sizLListS l := by
 unfold sizLListS
 induction l with
 | nil => simp [cntLListS]
 | cons x l ih =>
  have := cntLList_le x
  rw [cntLListS_cons, List.length_cons, List.map_cons, List.sum_cons]
  omega
def Base.sok (x : Base) : Prop := x.Mem.sok /\ x.Clock.sok /\ x.Limbo.length <= 1048576 /\ (∀ y ∈ x.Limbo, y.sok) /\ x.Haz.length <= 1048576 /\ True
theorem Base.sok_of {x : Base} (h : sizBase x <= 1048576) : x.sok := by
 unfold sizBase at h
 unfold sizLListS at h
 exact ⟨Mem.sok_of (by omega), Clock.sok_of (by omega), by omega, fun y hy => LList.sok_of (by have := sum_mem sizLList hy; omega), by omega, trivial⟩
def mcBase (x : Base) : Nat := mcMem x.Mem + mcClock x.Clock + cntLListS x.Limbo + 1 * x.Haz.length
theorem mcBase_le (x : Base) : mcBase x <= 32 * sizBase x := by
 have := mcMem_le x.Mem
 have := mcClock_le x.Clock
 have := cntLListS_le x.Limbo
 unfold mcBase sizBase
 omega
def Batch.sok (x : Batch) : Prop := x.Cmds.length <= 1048576 /\ True
theorem Batch.sok_of {x : Batch} (h : sizBatch x <= 1048576) : x.sok := by
 unfold sizBatch at h
 exact ⟨by omega, trivial⟩
def cntBatch (x : Batch) : Nat := 1 + 3 * x.Cmds.length
def cntBatchS (l : List Batch) : Nat := (l.map cntBatch).sum
theorem cntBatchS_cons (x : Batch) (l : List Batch) : cntBatchS (x :: l) = cntBatch x + cntBatchS l := by simp [cntBatchS]
theorem cntBatch_le (x : Batch) : cntBatch x <= 32 * (1 + sizBatch x) := by
 unfold cntBatch sizBatch
 omega
theorem cntBatchS_le (l : List Batch) : cntBatchS l <= 32 * sizBatchS l := by
 unfold sizBatchS
 induction l with
 | nil => simp [cntBatchS]
 | cons x l ih =>
  have := cntBatch_le x
  rw [cntBatchS_cons, List.length_cons, List.map_cons, List.sum_cons]
  omega
def TQueue.sok (x : TQueue) : Prop := x.List.length <= 1048576 /\ (∀ y ∈ x.List, y.sok) /\ True
theorem TQueue.sok_of {x : TQueue} (h : sizTQueue x <= 1048576) : x.sok := by
 unfold sizTQueue at h
 unfold sizBatchS at h
 exact ⟨by omega, fun y hy => Batch.sok_of (by have := sum_mem sizBatch hy; omega), trivial⟩
def cntTQueue (x : TQueue) : Nat := cntBatchS x.List
def cntTQueueS (l : List TQueue) : Nat := (l.map cntTQueue).sum
theorem cntTQueueS_cons (x : TQueue) (l : List TQueue) : cntTQueueS (x :: l) = cntTQueue x + cntTQueueS l := by simp [cntTQueueS]
theorem cntTQueue_le (x : TQueue) : cntTQueue x <= 32 * (1 + sizTQueue x) := by
 have := cntBatchS_le x.List
 unfold cntTQueue sizTQueue
 omega
theorem cntTQueueS_le (l : List TQueue) : cntTQueueS l <= 32 * sizTQueueS l := by
 unfold sizTQueueS
 induction l with
 | nil => simp [cntTQueueS]
 | cons x l ih =>
  have := cntTQueue_le x
  rw [cntTQueueS_cons, List.length_cons, List.map_cons, List.sum_cons]
  omega
def TJob.sok (x : TJob) : Prop := x.Batch.sok /\ x.Reads.length <= 1048576 /\ x.Writes.length <= 1048576 /\ x.Res.length <= 1048576 /\ x.New.length <= 1048576 /\ x.Held.length <= 1048576 /\ x.Olds.length <= 1048576 /\ True
theorem TJob.sok_of {x : TJob} (h : sizTJob x <= 1048576) : x.sok := by
 unfold sizTJob at h
 exact ⟨Batch.sok_of (by omega), by omega, by omega, by omega, by omega, by omega, by omega, trivial⟩
def cntTJob (x : TJob) : Nat := 25 + 3 * x.Batch.Cmds.length + 2 * x.Reads.length + 3 * x.Writes.length + 2 * x.Res.length + 1 * x.New.length + 1 * x.Held.length + 1 * x.Olds.length
def cntTJobS (l : List TJob) : Nat := (l.map cntTJob).sum
theorem cntTJobS_cons (x : TJob) (l : List TJob) : cntTJobS (x :: l) = cntTJob x + cntTJobS l := by simp [cntTJobS]
theorem cntTJob_le (x : TJob) : cntTJob x <= 32 * (1 + sizTJob x) := by
 unfold cntTJob sizTJob
 unfold sizBatch
 omega
theorem cntTJobS_le (l : List TJob) : cntTJobS l <= 32 * sizTJobS l := by
 unfold sizTJobS
 induction l with
 | nil => simp [cntTJobS]
 | cons x l ih =>
  have := cntTJob_le x
  rw [cntTJobS_cons, List.length_cons, List.map_cons, List.sum_cons]
  omega
def TEv.sok (x : TEv) : Prop := x.Cmds.length <= 1048576 /\ x.Res.length <= 1048576 /\ True
theorem TEv.sok_of {x : TEv} (h : sizTEv x <= 1048576) : x.sok := by
 unfold sizTEv at h
 exact ⟨by omega, by omega, trivial⟩
def cntTEv (x : TEv) : Nat := 4 + 3 * x.Cmds.length + 2 * x.Res.length
def cntTEvS (l : List TEv) : Nat := (l.map cntTEv).sum
theorem cntTEvS_cons (x : TEv) (l : List TEv) : cntTEvS (x :: l) = cntTEv x + cntTEvS l := by simp [cntTEvS]
theorem cntTEv_le (x : TEv) : cntTEv x <= 32 * (1 + sizTEv x) := by
 unfold cntTEv sizTEv
 omega
theorem cntTEvS_le (l : List TEv) : cntTEvS l <= 32 * sizTEvS l := by
 unfold sizTEvS
 induction l with
 | nil => simp [cntTEvS]
 | cons x l ih =>
  have := cntTEv_le x
  rw [cntTEvS_cons, List.length_cons, List.map_cons, List.sum_cons]
  omega
def Table.sok (x : Table) : Prop := x.Base.sok /\ x.Bkts.length <= 1048576 /\ x.Jobs.length <= 1048576 /\ (∀ y ∈ x.Jobs, y.sok) /\ x.Todo.length <= 1048576 /\ (∀ y ∈ x.Todo, y.sok) /\ x.Log.length <= 1048576 /\ (∀ y ∈ x.Log, y.sok) /\ True
theorem Table.sok_of {x : Table} (h : sizTable x <= 1048576) : x.sok := by
 unfold sizTable at h
 unfold sizTEvS at h
 unfold sizTJobS at h
 unfold sizTQueueS at h
 exact ⟨Base.sok_of (by omega), by omega, by omega, fun y hy => TJob.sok_of (by have := sum_mem sizTJob hy; omega), by omega, fun y hy => TQueue.sok_of (by have := sum_mem sizTQueue hy; omega), by omega, fun y hy => TEv.sok_of (by have := sum_mem sizTEv hy; omega), trivial⟩
def mcTable (x : Table) : Nat := mcBase x.Base + 3 * x.Bkts.length + cntTJobS x.Jobs + cntTQueueS x.Todo + cntTEvS x.Log
theorem mcTable_le (x : Table) : mcTable x <= 32 * sizTable x := by
 have := mcBase_le x.Base
 have := cntTJobS_le x.Jobs
 have := cntTQueueS_le x.Todo
 have := cntTEvS_le x.Log
 unfold mcTable sizTable
 omega
end Go.Proofs.YtldpopbnlmoamaaGreat.Mod
