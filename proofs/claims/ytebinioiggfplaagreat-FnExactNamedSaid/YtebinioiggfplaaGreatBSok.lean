/- Contracts: Sok. -/
import Derived.Test.YtebinioiggfplaaGreatRows
import Derived.Test.YtebinioiggfplaaGreatBTy
import Derived.Test.YtebinioiggfplaaGreatAbsTac
import Derived.Test.YtebinioiggfplaaGreatAbsData
import Derived.Test.YtebinioiggfplaaGreatBFam2
import Derived.WalkKit
import Derived.ProofKit
import Derived.OpenShut
namespace Go.Proofs.YtebinioiggfplaaGreat.Mod
open Go.Proofs.Tryz Go.Abs Go.Proofs.YtebinioiggfplaaGreat.Ty Go.ChangeShapes Go.WideShapes Go.ChangeAt Go.RowKit
set_option linter.unusedSimpArgs false
set_option linter.unusedVariables false
set_option maxHeartbeats 8000000
set_option maxRecDepth 100000
def markInts (k : Int) (n : Nat) : List (List D) := (List.range n).map fun i => encI (k + 1 * (i : Nat))
theorem drop_mid {α : Type} {A B : List α} {i : Nat} {x : α} (h : A.length = i) : (A ++ x :: B).drop (i + 1) = B := by
 subst h; rw [List.drop_append]; simp
def Heap.sok (x : Heap) : Prop := x.Bytes.length <= 1048576 /\ x.Class.length <= 1048576 /\ True
theorem Heap.sok_of {x : Heap} (h : sizHeap x <= 1048576) : x.sok := by
 unfold sizHeap at h
 exact ⟨by omega, by omega, trivial⟩
def mcHeap (x : Heap) : Nat := 1 * x.Bytes.length + 1 * x.Class.length
theorem mcHeap_le (x : Heap) : mcHeap x <= 32 * sizHeap x := by
 unfold mcHeap sizHeap
 omega
def SList.sok (x : SList) : Prop := x.Slots.length <= 1048576 /\ True
theorem SList.sok_of {x : SList} (h : sizSList x <= 1048576) : x.sok := by
 unfold sizSList at h
 exact ⟨by omega, trivial⟩
def cntSList (x : SList) : Nat := 1 * x.Slots.length
def cntSListS (l : List SList) : Nat := (l.map cntSList).sum
theorem cntSListS_cons (x : SList) (l : List SList) : cntSListS (x :: l) = cntSList x + cntSListS l := by simp [cntSListS]
theorem cntSList_le (x : SList) : cntSList x <= 32 * (1 + sizSList x) := by
 unfold cntSList sizSList
 omega
theorem cntSListS_le (l : List SList) : cntSListS l <= 32 * sizSListS l := by
 unfold sizSListS
 induction l with
 | nil => simp [cntSListS]
 | cons x l ih =>
  have := cntSList_le x
  rw [cntSListS_cons, List.length_cons, List.map_cons, List.sum_cons]
  omega
def Lists.sok (x : Lists) : Prop := x.Global.length <= 1048576 /\ (∀ y ∈ x.Global, y.sok) /\ x.Own.length <= 1048576 /\ (∀ y ∈ x.Own, y.sok) /\ True
theorem Lists.sok_of {x : Lists} (h : sizLists x <= 1048576) : x.sok := by
 unfold sizLists at h
 unfold sizSListS at h
 exact ⟨by omega, fun y hy => SList.sok_of (by have := sum_mem sizSList hy; omega), by omega, fun y hy => SList.sok_of (by have := sum_mem sizSList hy; omega), trivial⟩
def mcLists (x : Lists) : Nat := cntSListS x.Global + cntSListS x.Own
theorem mcLists_le (x : Lists) : mcLists x <= 32 * sizLists x := by
 have := cntSListS_le x.Global
 have := cntSListS_le x.Own
 unfold mcLists sizLists
 omega
def Mem.sok (x : Mem) : Prop := x.Heap.sok /\ x.Lists.sok /\ True
theorem Mem.sok_of {x : Mem} (h : sizMem x <= 1048576) : x.sok := by
 unfold sizMem at h
 exact ⟨Heap.sok_of (by omega), Lists.sok_of (by omega), trivial⟩
def mcMem (x : Mem) : Nat := mcHeap x.Heap + mcLists x.Lists
theorem mcMem_le (x : Mem) : mcMem x <= 32 * sizMem x := by
 have := mcHeap_le x.Heap
 have := mcLists_le x.Lists
 unfold mcMem sizMem
 omega
def Clock.sok (x : Clock) : Prop := x.Pins.length <= 1048576 /\ True
theorem Clock.sok_of {x : Clock} (h : sizClock x <= 1048576) : x.sok := by
 unfold sizClock at h
 exact ⟨by omega, trivial⟩
def mcClock (x : Clock) : Nat := 4 * x.Pins.length
theorem mcClock_le (x : Clock) : mcClock x <= 32 * sizClock x := by
 unfold mcClock sizClock
 omega
def LList.sok (x : LList) : Prop := x.Rows.length <= 1048576 /\ True
theorem LList.sok_of {x : LList} (h : sizLList x <= 1048576) : x.sok := by
 unfold sizLList at h
 exact ⟨by omega, trivial⟩
def cntLList (x : LList) : Nat := 2 * x.Rows.length
def cntLListS (l : List LList) : Nat := (l.map cntLList).sum
theorem cntLListS_cons (x : LList) (l : List LList) : cntLListS (x :: l) = cntLList x + cntLListS l := by simp [cntLListS]
theorem cntLList_le (x : LList) : cntLList x <= 32 * (1 + sizLList x) := by
 unfold cntLList sizLList
 omega
theorem cntLListS_le (l : List LList) : cntLListS l <= 32 * sizLListS l := by
 unfold sizLListS
 induction l with
 | nil => simp [cntLListS]
 | cons x l ih =>
  have := cntLList_le x
  rw [cntLListS_cons, List.length_cons, List.map_cons, List.sum_cons]
  omega
def Base.sok (x : Base) : Prop := x.Mem.sok /\ x.Clock.sok /\ x.Limbo.length <= 1048576 /\ (∀ y ∈ x.Limbo, y.sok) /\ x.Haz.length <= 1048576 /\ True
theorem Base.sok_of {x : Base} (h : sizBase x <= 1048576) : x.sok := by
 unfold sizBase at h
 unfold sizLListS at h
 exact ⟨Mem.sok_of (by omega), Clock.sok_of (by omega), by omega, fun y hy => LList.sok_of (by have := sum_mem sizLList hy; omega), by omega, trivial⟩
def mcBase (x : Base) : Nat := mcMem x.Mem + mcClock x.Clock + cntLListS x.Limbo + 1 * x.Haz.length
theorem mcBase_le (x : Base) : mcBase x <= 32 * sizBase x := by
 have := mcMem_le x.Mem
 have := mcClock_le x.Clock
 have := cntLListS_le x.Limbo
 unfold mcBase sizBase
 omega
def Queue.sok (x : Queue) : Prop := x.Ops.length <= 1048576 /\ True
theorem Queue.sok_of {x : Queue} (h : sizQueue x <= 1048576) : x.sok := by
 unfold sizQueue at h
 exact ⟨by omega, trivial⟩
def cntQueue (x : Queue) : Nat := 4 * x.Ops.length
def cntQueueS (l : List Queue) : Nat := (l.map cntQueue).sum
theorem cntQueueS_cons (x : Queue) (l : List Queue) : cntQueueS (x :: l) = cntQueue x + cntQueueS l := by simp [cntQueueS]
theorem cntQueue_le (x : Queue) : cntQueue x <= 32 * (1 + sizQueue x) := by
 unfold cntQueue sizQueue
 omega
theorem cntQueueS_le (l : List Queue) : cntQueueS l <= 32 * sizQueueS l := by
 unfold sizQueueS
 induction l with
 | nil => simp [cntQueueS]
 | cons x l ih =>
  have := cntQueue_le x
  rw [cntQueueS_cons, List.length_cons, List.map_cons, List.sum_cons]
  omega
def Shelf.sok (x : Shelf) : Prop := x.Base.sok /\ x.Cells.length <= 1048576 /\ x.Jobs.length <= 1048576 /\ x.Todo.length <= 1048576 /\ (∀ y ∈ x.Todo, y.sok) /\ x.Log.length <= 1048576 /\ True
theorem Shelf.sok_of {x : Shelf} (h : sizShelf x <= 1048576) : x.sok := by
 unfold sizShelf at h
 unfold sizQueueS at h
 exact ⟨Base.sok_of (by omega), by omega, by omega, by omega, fun y hy => Queue.sok_of (by have := sum_mem sizQueue hy; omega), by omega, trivial⟩
def mcShelf (x : Shelf) : Nat := mcBase x.Base + 1 * x.Cells.length + 21 * x.Jobs.length + cntQueueS x.Todo + 7 * x.Log.length
theorem mcShelf_le (x : Shelf) : mcShelf x <= 32 * sizShelf x := by
 have := mcBase_le x.Base
 have := cntQueueS_le x.Todo
 unfold mcShelf sizShelf
 omega
def Batch.sok (x : Batch) : Prop := x.Cmds.length <= 1048576 /\ True
theorem Batch.sok_of {x : Batch} (h : sizBatch x <= 1048576) : x.sok := by
 unfold sizBatch at h
 exact ⟨by omega, trivial⟩
def TJob.sok (x : TJob) : Prop := x.Batch.sok /\ x.Reads.length <= 1048576 /\ x.Writes.length <= 1048576 /\ x.Res.length <= 1048576 /\ x.New.length <= 1048576 /\ x.Held.length <= 1048576 /\ x.Olds.length <= 1048576 /\ True
theorem TJob.sok_of {x : TJob} (h : sizTJob x <= 1048576) : x.sok := by
 unfold sizTJob at h
 exact ⟨Batch.sok_of (by omega), by omega, by omega, by omega, by omega, by omega, by omega, trivial⟩
end Go.Proofs.YtebinioiggfplaaGreat.Mod
