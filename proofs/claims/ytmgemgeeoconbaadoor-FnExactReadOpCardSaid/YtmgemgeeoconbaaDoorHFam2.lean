/- Contracts: Fam2. -/
import Derived.Test.YtmgemgeeoconbaaDoorRows
import Derived.Test.YtmgemgeeoconbaaDoorHTy
import Derived.Test.YtmgemgeeoconbaaDoorAbsTac
import Derived.Test.YtmgemgeeoconbaaDoorAbsData
import Derived.Test.YtmgemgeeoconbaaDoorHFam
import Derived.WalkKit
import Derived.ProofKit
import Derived.OpenShut
namespace Go.Proofs.YtmgemgeeoconbaaDoor.Mod
open Go.Proofs.Tryd Go.Abs Go.Proofs.YtmgemgeeoconbaaDoor.Ty Go.ChangeShapes Go.WideShapes Go.ChangeAt Go.RowKit
set_option linter.unusedSimpArgs false
set_option linter.unusedVariables false
set_option maxHeartbeats 8000000
set_option maxRecDepth 100000
def encI (x : Int) : List D := [.int .i64 x]
theorem sum_get {α : Type} (f : α -> Nat) : ∀ {l : List α} {i : Nat} (h : i < l.length), f l[i] <= (l.map f).sum
 | x :: l, 0, _ => by simp
 | x :: l, i + 1, h => by
  have := sum_get f (l := l) (i := i) (by simpa using h)
  simp; omega
theorem sum_mem {α : Type} (f : α -> Nat) {l : List α} {x : α} (h : x ∈ l) : f x <= (l.map f).sum := by
 obtain ⟨i, hi, rfl⟩ := List.getElem_of_mem h
 exact sum_get f hi
theorem sum_take_succ {α : Type} (f : α -> Nat) {l : List α} {i : Nat} (h : i < l.length) : ((l.take (i + 1)).map f).sum = ((l.take i).map f).sum + f l[i] := by
 rw [List.take_succ_eq_append_getElem h, List.map_append, List.sum_append]; simp
theorem sum_take_le {α : Type} (f : α -> Nat) (l : List α) (i : Nat) : ((l.take i).map f).sum <= (l.map f).sum := by
 conv => rhs; rw [<- List.take_append_drop i l, List.map_append, List.sum_append]
 omega
structure Heap where
 Bytes : List Int
 Class : List Int
 deriving DecidableEq
def encHeap (x : Heap) : List D := [.sl 1 (x.Bytes.map encI), .sl 1 (x.Class.map encI)]
def Heap.wf (x : Heap) : Prop := (∀ y ∈ x.Bytes, (Lit.int .i64 y).wf = true) /\ (∀ y ∈ x.Class, (Lit.int .i64 y).wf = true) /\ True
theorem Heap.eq_iff (x y : Heap) : x = y ↔ x.Bytes = y.Bytes /\ x.Class = y.Class := by cases x; cases y; simp
def Heap.lok (x : Heap) : Prop := x.Bytes.length <= maxLen /\ x.Class.length <= maxLen /\ True
def sizHeap (x : Heap) : Nat := x.Bytes.length + x.Class.length
def sizHeapS (l : List Heap) : Nat := l.length + (l.map sizHeap).sum
def zeroHeap : Heap := ⟨[], []⟩
theorem Heap.lok_of {x : Heap} (h : sizHeap x <= 16777216) : x.lok := by
 have hm : maxLen = 9223372036854775807 := rfl
 unfold sizHeap at h
 exact ⟨by omega, by omega, trivial⟩
theorem lokHeapS {l : List Heap} (h : sizHeapS l <= 16777216) : l.length <= maxLen /\ ∀ y ∈ l, y.lok := by
 have hm : maxLen = 9223372036854775807 := rfl
 unfold sizHeapS at h
 exact ⟨by omega, fun y hy => Heap.lok_of (by have := sum_mem sizHeap hy; omega)⟩
structure SList where
 Slots : List Int
 deriving DecidableEq
def encSList (x : SList) : List D := [.sl 1 (x.Slots.map encI)]
def SList.wf (x : SList) : Prop := (∀ y ∈ x.Slots, (Lit.int .i64 y).wf = true) /\ True
theorem SList.eq_iff (x y : SList) : x = y ↔ x.Slots = y.Slots := by cases x; cases y; simp
def SList.lok (x : SList) : Prop := x.Slots.length <= maxLen /\ True
def sizSList (x : SList) : Nat := x.Slots.length
def sizSListS (l : List SList) : Nat := l.length + (l.map sizSList).sum
def zeroSList : SList := ⟨[]⟩
theorem SList.lok_of {x : SList} (h : sizSList x <= 16777216) : x.lok := by
 have hm : maxLen = 9223372036854775807 := rfl
 unfold sizSList at h
 exact ⟨by omega, trivial⟩
theorem lokSListS {l : List SList} (h : sizSListS l <= 16777216) : l.length <= maxLen /\ ∀ y ∈ l, y.lok := by
 have hm : maxLen = 9223372036854775807 := rfl
 unfold sizSListS at h
 exact ⟨by omega, fun y hy => SList.lok_of (by have := sum_mem sizSList hy; omega)⟩
structure Lists where
 Global : List SList
 Own : List SList
 deriving DecidableEq
def encLists (x : Lists) : List D := [.sl 1 (x.Global.map encSList), .sl 1 (x.Own.map encSList)]
def Lists.wf (x : Lists) : Prop := (∀ y ∈ x.Global, y.wf) /\ (∀ y ∈ x.Own, y.wf) /\ True
theorem Lists.eq_iff (x y : Lists) : x = y ↔ x.Global = y.Global /\ x.Own = y.Own := by cases x; cases y; simp
def Lists.lok (x : Lists) : Prop := x.Global.length <= maxLen /\ (∀ y ∈ x.Global, y.lok) /\ x.Own.length <= maxLen /\ (∀ y ∈ x.Own, y.lok) /\ True
def sizLists (x : Lists) : Nat := sizSListS x.Global + sizSListS x.Own
def sizListsS (l : List Lists) : Nat := l.length + (l.map sizLists).sum
def zeroLists : Lists := ⟨[], []⟩
theorem Lists.lok_of {x : Lists} (h : sizLists x <= 16777216) : x.lok := by
 have hm : maxLen = 9223372036854775807 := rfl
 unfold sizLists at h
 unfold sizSListS at h
 exact ⟨by omega, fun y hy => SList.lok_of (by have := sum_mem sizSList hy; omega), by omega, fun y hy => SList.lok_of (by have := sum_mem sizSList hy; omega), trivial⟩
theorem lokListsS {l : List Lists} (h : sizListsS l <= 16777216) : l.length <= maxLen /\ ∀ y ∈ l, y.lok := by
 have hm : maxLen = 9223372036854775807 := rfl
 unfold sizListsS at h
 exact ⟨by omega, fun y hy => Lists.lok_of (by have := sum_mem sizLists hy; omega)⟩
structure Mem where
 Heap : Heap
 Lists : Lists
 deriving DecidableEq
def encMem (x : Mem) : List D := [.sl 1 (x.Heap.Bytes.map encI), .sl 1 (x.Heap.Class.map encI), .sl 1 (x.Lists.Global.map encSList), .sl 1 (x.Lists.Own.map encSList)]
def Mem.wf (x : Mem) : Prop := x.Heap.wf /\ x.Lists.wf /\ True
theorem Mem.eq_iff (x y : Mem) : x = y ↔ x.Heap = y.Heap /\ x.Lists = y.Lists := by cases x; cases y; simp
def Mem.lok (x : Mem) : Prop := x.Heap.lok /\ x.Lists.lok /\ True
def sizMem (x : Mem) : Nat := sizHeap x.Heap + sizLists x.Lists
def sizMemS (l : List Mem) : Nat := l.length + (l.map sizMem).sum
def zeroMem : Mem := ⟨zeroHeap, zeroLists⟩
theorem Mem.lok_of {x : Mem} (h : sizMem x <= 16777216) : x.lok := by
 have hm : maxLen = 9223372036854775807 := rfl
 unfold sizMem at h
 exact ⟨Heap.lok_of (by omega), Lists.lok_of (by omega), trivial⟩
theorem lokMemS {l : List Mem} (h : sizMemS l <= 16777216) : l.length <= maxLen /\ ∀ y ∈ l, y.lok := by
 have hm : maxLen = 9223372036854775807 := rfl
 unfold sizMemS at h
 exact ⟨by omega, fun y hy => Mem.lok_of (by have := sum_mem sizMem hy; omega)⟩
structure Clock where
 Epoch : Int
 Pins : List Pin
 deriving DecidableEq
def encClock (x : Clock) : List D := [.int .i64 x.Epoch, .sl 4 (x.Pins.map encPin)]
def Clock.wf (x : Clock) : Prop := (Lit.int .i64 x.Epoch).wf = true /\ (∀ y ∈ x.Pins, y.wf) /\ True
theorem Clock.eq_iff (x y : Clock) : x = y ↔ x.Epoch = y.Epoch /\ x.Pins = y.Pins := by cases x; cases y; simp
def Clock.lok (x : Clock) : Prop := x.Pins.length <= maxLen /\ True
def sizClock (x : Clock) : Nat := x.Pins.length
def sizClockS (l : List Clock) : Nat := l.length + (l.map sizClock).sum
def zeroClock : Clock := ⟨0, []⟩
theorem Clock.lok_of {x : Clock} (h : sizClock x <= 16777216) : x.lok := by
 have hm : maxLen = 9223372036854775807 := rfl
 unfold sizClock at h
 exact ⟨by omega, trivial⟩
theorem lokClockS {l : List Clock} (h : sizClockS l <= 16777216) : l.length <= maxLen /\ ∀ y ∈ l, y.lok := by
 have hm : maxLen = 9223372036854775807 := rfl
 unfold sizClockS at h
 exact ⟨by omega, fun y hy => Clock.lok_of (by have := sum_mem sizClock hy; omega)⟩
structure LList where
 Rows : List LRow
 deriving DecidableEq
def encLList (x : LList) : List D := [.sl 2 (x.Rows.map encLRow)]
def LList.wf (x : LList) : Prop := (∀ y ∈ x.Rows, y.wf) /\ True
theorem LList.eq_iff (x y : LList) : x = y ↔ x.Rows = y.Rows := by cases x; cases y; simp
def LList.lok (x : LList) : Prop := x.Rows.length <= maxLen /\ True
def sizLList (x : LList) : Nat := x.Rows.length
def sizLListS (l : List LList) : Nat := l.length + (l.map sizLList).sum
def zeroLList : LList := ⟨[]⟩
theorem LList.lok_of {x : LList} (h : sizLList x <= 16777216) : x.lok := by
 have hm : maxLen = 9223372036854775807 := rfl
 unfold sizLList at h
 exact ⟨by omega, trivial⟩
theorem lokLListS {l : List LList} (h : sizLListS l <= 16777216) : l.length <= maxLen /\ ∀ y ∈ l, y.lok := by
 have hm : maxLen = 9223372036854775807 := rfl
 unfold sizLListS at h
 exact ⟨by omega, fun y hy => LList.lok_of (by have := sum_mem sizLList hy; omega)⟩
structure Base where
 Mem : Mem
 Clock : Clock
 Limbo : List LList
 Haz : List Int
 deriving DecidableEq
def encBase (x : Base) : List D := [.sl 1 (x.Mem.Heap.Bytes.map encI), .sl 1 (x.Mem.Heap.Class.map encI), .sl 1 (x.Mem.Lists.Global.map encSList), .sl 1 (x.Mem.Lists.Own.map encSList), .int .i64 x.Clock.Epoch, .sl 4 (x.Clock.Pins.map encPin), .sl 1 (x.Limbo.map encLList), .sl 1 (x.Haz.map encI)]
def Base.wf (x : Base) : Prop := x.Mem.wf /\ x.Clock.wf /\ (∀ y ∈ x.Limbo, y.wf) /\ (∀ y ∈ x.Haz, (Lit.int .i64 y).wf = true) /\ True
theorem Base.eq_iff (x y : Base) : x = y ↔ x.Mem = y.Mem /\ x.Clock = y.Clock /\ x.Limbo = y.Limbo /\ x.Haz = y.Haz := by cases x; cases y; simp
def Base.lok (x : Base) : Prop := x.Mem.lok /\ x.Clock.lok /\ x.Limbo.length <= maxLen /\ (∀ y ∈ x.Limbo, y.lok) /\ x.Haz.length <= maxLen /\ True
def sizBase (x : Base) : Nat := sizMem x.Mem + sizClock x.Clock + sizLListS x.Limbo + x.Haz.length
def sizBaseS (l : List Base) : Nat := l.length + (l.map sizBase).sum
def zeroBase : Base := ⟨zeroMem, zeroClock, [], []⟩
theorem Base.lok_of {x : Base} (h : sizBase x <= 16777216) : x.lok := by
 have hm : maxLen = 9223372036854775807 := rfl
 unfold sizBase at h
 unfold sizLListS at h
 exact ⟨Mem.lok_of (by omega), Clock.lok_of (by omega), by omega, fun y hy => LList.lok_of (by have := sum_mem sizLList hy; omega), by omega, trivial⟩
theorem lokBaseS {l : List Base} (h : sizBaseS l <= 16777216) : l.length <= maxLen /\ ∀ y ∈ l, y.lok := by
 have hm : maxLen = 9223372036854775807 := rfl
 unfold sizBaseS at h
 exact ⟨by omega, fun y hy => Base.lok_of (by have := sum_mem sizBase hy; omega)⟩
structure Sub where
 Kind : Int
 A : Int
 Pc : Int
 E : Int
 Row : Int
 B : Int
 H : Int
 Out : Int
 Code : Int
 Done : Bool
 deriving DecidableEq
def encSub (x : Sub) : List D := [.int .i64 x.Kind, .int .i64 x.A, .int .i64 x.Pc, .int .i64 x.E, .int .i64 x.Row, .int .i64 x.B, .int .i64 x.H, .int .i64 x.Out, .int .i64 x.Code, .bool x.Done]
def Sub.wf (x : Sub) : Prop := (Lit.int .i64 x.Kind).wf = true /\ (Lit.int .i64 x.A).wf = true /\ (Lit.int .i64 x.Pc).wf = true /\ (Lit.int .i64 x.E).wf = true /\ (Lit.int .i64 x.Row).wf = true /\ (Lit.int .i64 x.B).wf = true /\ (Lit.int .i64 x.H).wf = true /\ (Lit.int .i64 x.Out).wf = true /\ (Lit.int .i64 x.Code).wf = true /\ True
theorem Sub.eq_iff (x y : Sub) : x = y ↔ x.Kind = y.Kind /\ x.A = y.A /\ x.Pc = y.Pc /\ x.E = y.E /\ x.Row = y.Row /\ x.B = y.B /\ x.H = y.H /\ x.Out = y.Out /\ x.Code = y.Code /\ x.Done = y.Done := by cases x; cases y; simp
def Sub.lok (x : Sub) : Prop := True
def zeroSub : Sub := ⟨0, 0, 0, 0, 0, 0, 0, 0, 0, false⟩
def Op.lok (x : Op) : Prop := True
def zeroOp : Op := ⟨0, 0, 0, 0⟩
structure Queue where
 Ops : List Op
 deriving DecidableEq
def encQueue (x : Queue) : List D := [.sl 4 (x.Ops.map encOp)]
def Queue.wf (x : Queue) : Prop := (∀ y ∈ x.Ops, y.wf) /\ True
theorem Queue.eq_iff (x y : Queue) : x = y ↔ x.Ops = y.Ops := by cases x; cases y; simp
def Queue.lok (x : Queue) : Prop := x.Ops.length <= maxLen /\ True
def sizQueue (x : Queue) : Nat := x.Ops.length
def sizQueueS (l : List Queue) : Nat := l.length + (l.map sizQueue).sum
def zeroQueue : Queue := ⟨[]⟩
structure Job where
 Busy : Bool
 Op : Op
 Serial : Int
 Pc : Int
 Sub : Sub
 H : Int
 Old : Int
 Val : Int
 Code : Int
 deriving DecidableEq
def encJob (x : Job) : List D := [.bool x.Busy, .int .i64 x.Op.Kind, .int .i64 x.Op.Cell, .int .i64 x.Op.Size, .int .i64 x.Op.Val, .int .i64 x.Serial, .int .i64 x.Pc, .int .i64 x.Sub.Kind, .int .i64 x.Sub.A, .int .i64 x.Sub.Pc, .int .i64 x.Sub.E, .int .i64 x.Sub.Row, .int .i64 x.Sub.B, .int .i64 x.Sub.H, .int .i64 x.Sub.Out, .int .i64 x.Sub.Code, .bool x.Sub.Done, .int .i64 x.H, .int .i64 x.Old, .int .i64 x.Val, .int .i64 x.Code]
def Job.wf (x : Job) : Prop := x.Op.wf /\ (Lit.int .i64 x.Serial).wf = true /\ (Lit.int .i64 x.Pc).wf = true /\ x.Sub.wf /\ (Lit.int .i64 x.H).wf = true /\ (Lit.int .i64 x.Old).wf = true /\ (Lit.int .i64 x.Val).wf = true /\ (Lit.int .i64 x.Code).wf = true /\ True
theorem Job.eq_iff (x y : Job) : x = y ↔ x.Busy = y.Busy /\ x.Op = y.Op /\ x.Serial = y.Serial /\ x.Pc = y.Pc /\ x.Sub = y.Sub /\ x.H = y.H /\ x.Old = y.Old /\ x.Val = y.Val /\ x.Code = y.Code := by cases x; cases y; simp
def Job.lok (x : Job) : Prop := True
def zeroJob : Job := ⟨false, zeroOp, 0, 0, zeroSub, 0, 0, 0, 0⟩
structure Shelf where
 Base : Base
 Cells : List Int
 Jobs : List Job
 Todo : List Queue
 Log : List Ev
 Serial : Int
 deriving DecidableEq
def encShelf (x : Shelf) : List D := [.sl 1 (x.Base.Mem.Heap.Bytes.map encI), .sl 1 (x.Base.Mem.Heap.Class.map encI), .sl 1 (x.Base.Mem.Lists.Global.map encSList), .sl 1 (x.Base.Mem.Lists.Own.map encSList), .int .i64 x.Base.Clock.Epoch, .sl 4 (x.Base.Clock.Pins.map encPin), .sl 1 (x.Base.Limbo.map encLList), .sl 1 (x.Base.Haz.map encI), .sl 1 (x.Cells.map encI), .sl 21 (x.Jobs.map encJob), .sl 1 (x.Todo.map encQueue), .sl 7 (x.Log.map encEv), .int .i64 x.Serial]
def Shelf.wf (x : Shelf) : Prop := x.Base.wf /\ (∀ y ∈ x.Cells, (Lit.int .i64 y).wf = true) /\ (∀ y ∈ x.Jobs, y.wf) /\ (∀ y ∈ x.Todo, y.wf) /\ (∀ y ∈ x.Log, y.wf) /\ (Lit.int .i64 x.Serial).wf = true /\ True
theorem Shelf.eq_iff (x y : Shelf) : x = y ↔ x.Base = y.Base /\ x.Cells = y.Cells /\ x.Jobs = y.Jobs /\ x.Todo = y.Todo /\ x.Log = y.Log /\ x.Serial = y.Serial := by cases x; cases y; simp
def Shelf.lok (x : Shelf) : Prop := x.Base.lok /\ x.Cells.length <= maxLen /\ x.Jobs.length <= maxLen /\ x.Todo.length <= maxLen /\ (∀ y ∈ x.Todo, y.lok) /\ x.Log.length <= maxLen /\ True
def sizShelf (x : Shelf) : Nat := sizBase x.Base + x.Cells.length + x.Jobs.length + sizQueueS x.Todo + x.Log.length
def sizShelfS (l : List Shelf) : Nat := l.length + (l.map sizShelf).sum
def zeroShelf : Shelf := ⟨zeroBase, [], [], [], [], 0⟩
structure Batch where
 Collect : Bool
 Cmds : List Cmd
 deriving DecidableEq
def encBatch (x : Batch) : List D := [.bool x.Collect, .sl 3 (x.Cmds.map encCmd)]
def Batch.wf (x : Batch) : Prop := (∀ y ∈ x.Cmds, y.wf) /\ True
theorem Batch.eq_iff (x y : Batch) : x = y ↔ x.Collect = y.Collect /\ x.Cmds = y.Cmds := by cases x; cases y; simp
def Batch.lok (x : Batch) : Prop := x.Cmds.length <= maxLen /\ True
def sizBatch (x : Batch) : Nat := x.Cmds.length
def sizBatchS (l : List Batch) : Nat := l.length + (l.map sizBatch).sum
def zeroBatch : Batch := ⟨false, []⟩
end Go.Proofs.YtmgemgeeoconbaaDoor.Mod
