import Derived.Test.YtkmmgklnoagedaaGreatRows
import Derived.Test.YtkmmgklnoagedaaGreatZATy
import Derived.Test.YtkmmgklnoagedaaGreatZAbsTac
import Derived.Test.YtkmmgklnoagedaaGreatZAbsData
import Derived.Test.YtkmmgklnoagedaaGreatZAFam2
import Derived.WalkKit
import Derived.ProofKit
import Derived.OpenShut
/- Contracts: Fam3. -/
namespace Go.Proofs.YtkmmgklnoagedaaGreat.Mod
open Go.Proofs.Tryz Go.Abs Go.Proofs.YtkmmgklnoagedaaGreat.Ty Go.ChangeShapes Go.WideShapes Go.ChangeAt Go.RowKit
set_option linter.unusedSimpArgs false
set_option linter.unusedVariables false
set_option maxHeartbeats 8000000
set_option maxRecDepth 100000
def markInts (k : Int) (n : Nat) : List (List D) := (List.range n).map fun i => encI (k + 1 * (i : Nat))
theorem b8 {α : Type} {A B : List α} {i : Nat} {x : α} (h : A.length = i) : (A ++ x :: B).drop (i + 1) = B := by
 subst h; rw [List.drop_append]; simp
def Heap.sok (x : Heap) : Prop := x.Bytes.length <= 1048576 /\ x.Class.length <= 1048576 /\ True
theorem Heap.sok_of {x : Heap} (h : sizHeap x <= 1048576) : x.sok := by
 unfold sizHeap at h
 exact ⟨by omega, by omega, trivial⟩
def mcHeap (x : Heap) : Nat := 1 * x.Bytes.length + 1 * x.Class.length
theorem mj (x : Heap) : mcHeap x <= 32 * sizHeap x := by
 unfold mcHeap sizHeap
 omega
def SList.sok (x : SList) : Prop := x.Slots.length <= 1048576 /\ True
theorem SList.sok_of {x : SList} (h : sizSList x <= 1048576) : x.sok := by
 unfold sizSList at h
 exact ⟨by omega, trivial⟩
def cntSList (x : SList) : Nat := 1 * x.Slots.length
def cntSListS (l : List SList) : Nat := (l.map cntSList).sum
theorem de (x : SList) (l : List SList) : cntSListS (x :: l) = cntSList x + cntSListS l := by simp [cntSListS]
theorem jQ (x : SList) : cntSList x <= 32 * (1 + sizSList x) := by
 unfold cntSList sizSList
 omega
theorem eh (l : List SList) : cntSListS l <= 32 * sizSListS l := by
 unfold sizSListS
 induction l with
 | nil => simp [cntSListS]
 | cons x l ih =>
  have := jQ x
  rw [de, List.length_cons, List.map_cons, List.sum_cons]
  omega
def Lists.sok (x : Lists) : Prop := x.Global.length <= 1048576 /\ (∀ y ∈ x.Global, y.sok) /\ x.Own.length <= 1048576 /\ (∀ y ∈ x.Own, y.sok) /\ True
theorem Lists.sok_of {x : Lists} (h : sizLists x <= 1048576) : x.sok := by
 unfold sizLists at h
 unfold sizSListS at h
 exact ⟨by omega, fun y hy => SList.sok_of (by have := aI sizSList hy; omega), by omega, fun y hy => SList.sok_of (by have := aI sizSList hy; omega), trivial⟩
def mcLists (x : Lists) : Nat := cntSListS x.Global + cntSListS x.Own
theorem kY (x : Lists) : mcLists x <= 32 * sizLists x := by
 have := eh x.Global
 have := eh x.Own
 unfold mcLists sizLists
 omega
def Mem.sok (x : Mem) : Prop := x.Heap.sok /\ x.Lists.sok /\ True
theorem Mem.sok_of {x : Mem} (h : sizMem x <= 1048576) : x.sok := by
 unfold sizMem at h
 exact ⟨Heap.sok_of (by omega), Lists.sok_of (by omega), trivial⟩
def mcMem (x : Mem) : Nat := mcHeap x.Heap + mcLists x.Lists
theorem nk (x : Mem) : mcMem x <= 32 * sizMem x := by
 have := mj x.Heap
 have := kY x.Lists
 unfold mcMem sizMem
 omega
def Clock.sok (x : Clock) : Prop := x.Pins.length <= 1048576 /\ True
theorem Clock.sok_of {x : Clock} (h : sizClock x <= 1048576) : x.sok := by
 unfold sizClock at h
 exact ⟨by omega, trivial⟩
def mcClock (x : Clock) : Nat := 4 * x.Pins.length
theorem kZ (x : Clock) : mcClock x <= 32 * sizClock x := by
 unfold mcClock sizClock
 omega
def LList.sok (x : LList) : Prop := x.Rows.length <= 1048576 /\ True
theorem LList.sok_of {x : LList} (h : sizLList x <= 1048576) : x.sok := by
 unfold sizLList at h
 exact ⟨by omega, trivial⟩
def cntLList (x : LList) : Nat := 2 * x.Rows.length
def cntLListS (l : List LList) : Nat := (l.map cntLList).sum
theorem df (x : LList) (l : List LList) : cntLListS (x :: l) = cntLList x + cntLListS l := by simp [cntLListS]
theorem jR (x : LList) : cntLList x <= 32 * (1 + sizLList x) := by
 unfold cntLList sizLList
 omega
theorem i5 (l : List LList) : cntLListS l <= 32 * sizLListS l := by
 unfold sizLListS
 induction l with
 | nil => simp [cntLListS]
 | cons x l ih =>
  have := jR x
  rw [df, List.length_cons, List.map_cons, List.sum_cons]
  omega
def Base.sok (x : Base) : Prop := x.Mem.sok /\ x.Clock.sok /\ x.Limbo.length <= 1048576 /\ (∀ y ∈ x.Limbo, y.sok) /\ x.Haz.length <= 1048576 /\ True
theorem Base.sok_of {x : Base} (h : sizBase x <= 1048576) : x.sok := by
 unfold sizBase at h
 unfold sizLListS at h
 exact ⟨Mem.sok_of (by omega), Clock.sok_of (by omega), by omega, fun y hy => LList.sok_of (by have := aI sizLList hy; omega), by omega, trivial⟩
def mcBase (x : Base) : Nat := mcMem x.Mem + mcClock x.Clock + cntLListS x.Limbo + 1 * x.Haz.length
theorem mk (x : Base) : mcBase x <= 32 * sizBase x := by
 have := nk x.Mem
 have := kZ x.Clock
 have := i5 x.Limbo
 unfold mcBase sizBase
 omega
def Batch.sok (x : Batch) : Prop := x.Cmds.length <= 1048576 /\ True
theorem Batch.sok_of {x : Batch} (h : sizBatch x <= 1048576) : x.sok := by
 unfold sizBatch at h
 exact ⟨by omega, trivial⟩
def cntBatch (x : Batch) : Nat := 1 + 3 * x.Cmds.length
def cntBatchS (l : List Batch) : Nat := (l.map cntBatch).sum
theorem dg (x : Batch) (l : List Batch) : cntBatchS (x :: l) = cntBatch x + cntBatchS l := by simp [cntBatchS]
theorem jS (x : Batch) : cntBatch x <= 32 * (1 + sizBatch x) := by
 unfold cntBatch sizBatch
 omega
theorem i6 (l : List Batch) : cntBatchS l <= 32 * sizBatchS l := by
 unfold sizBatchS
 induction l with
 | nil => simp [cntBatchS]
 | cons x l ih =>
  have := jS x
  rw [dg, List.length_cons, List.map_cons, List.sum_cons]
  omega
def TQueue.sok (x : TQueue) : Prop := x.List.length <= 1048576 /\ (∀ y ∈ x.List, y.sok) /\ True
theorem TQueue.sok_of {x : TQueue} (h : sizTQueue x <= 1048576) : x.sok := by
 unfold sizTQueue at h
 unfold sizBatchS at h
 exact ⟨by omega, fun y hy => Batch.sok_of (by have := aI sizBatch hy; omega), trivial⟩
def cntTQueue (x : TQueue) : Nat := cntBatchS x.List
def cntTQueueS (l : List TQueue) : Nat := (l.map cntTQueue).sum
theorem cR (x : TQueue) (l : List TQueue) : cntTQueueS (x :: l) = cntTQueue x + cntTQueueS l := by simp [cntTQueueS]
theorem i7 (x : TQueue) : cntTQueue x <= 32 * (1 + sizTQueue x) := by
 have := i6 x.List
 unfold cntTQueue sizTQueue
 omega
theorem hU (l : List TQueue) : cntTQueueS l <= 32 * sizTQueueS l := by
 unfold sizTQueueS
 induction l with
 | nil => simp [cntTQueueS]
 | cons x l ih =>
  have := i7 x
  rw [cR, List.length_cons, List.map_cons, List.sum_cons]
  omega
def TJob.sok (x : TJob) : Prop := x.Batch.sok /\ x.Reads.length <= 1048576 /\ x.Writes.length <= 1048576 /\ x.Res.length <= 1048576 /\ x.New.length <= 1048576 /\ x.Held.length <= 1048576 /\ x.Olds.length <= 1048576 /\ True
theorem TJob.sok_of {x : TJob} (h : sizTJob x <= 1048576) : x.sok := by
 unfold sizTJob at h
 exact ⟨Batch.sok_of (by omega), by omega, by omega, by omega, by omega, by omega, by omega, trivial⟩
def cntTJob (x : TJob) : Nat := 25 + 3 * x.Batch.Cmds.length + 2 * x.Reads.length + 3 * x.Writes.length + 2 * x.Res.length + 1 * x.New.length + 1 * x.Held.length + 1 * x.Olds.length
def cntTJobS (l : List TJob) : Nat := (l.map cntTJob).sum
theorem dL (x : TJob) (l : List TJob) : cntTJobS (x :: l) = cntTJob x + cntTJobS l := by simp [cntTJobS]
theorem la (x : TJob) : cntTJob x <= 32 * (1 + sizTJob x) := by
 unfold cntTJob sizTJob
 unfold sizBatch
 omega
theorem jT (l : List TJob) : cntTJobS l <= 32 * sizTJobS l := by
 unfold sizTJobS
 induction l with
 | nil => simp [cntTJobS]
 | cons x l ih =>
  have := la x
  rw [dL, List.length_cons, List.map_cons, List.sum_cons]
  omega
def TEv.sok (x : TEv) : Prop := x.Cmds.length <= 1048576 /\ x.Res.length <= 1048576 /\ True
theorem TEv.sok_of {x : TEv} (h : sizTEv x <= 1048576) : x.sok := by
 unfold sizTEv at h
 exact ⟨by omega, by omega, trivial⟩
def cntTEv (x : TEv) : Nat := 4 + 3 * x.Cmds.length + 2 * x.Res.length
def cntTEvS (l : List TEv) : Nat := (l.map cntTEv).sum
theorem em (x : TEv) (l : List TEv) : cntTEvS (x :: l) = cntTEv x + cntTEvS l := by simp [cntTEvS]
theorem ml (x : TEv) : cntTEv x <= 32 * (1 + sizTEv x) := by
 unfold cntTEv sizTEv
 omega
theorem lc (l : List TEv) : cntTEvS l <= 32 * sizTEvS l := by
 unfold sizTEvS
 induction l with
 | nil => simp [cntTEvS]
 | cons x l ih =>
  have := ml x
  rw [em, List.length_cons, List.map_cons, List.sum_cons]
  omega
def Table.sok (x : Table) : Prop := x.Base.sok /\ x.Bkts.length <= 1048576 /\ x.Jobs.length <= 1048576 /\ (∀ y ∈ x.Jobs, y.sok) /\ x.Todo.length <= 1048576 /\ (∀ y ∈ x.Todo, y.sok) /\ x.Log.length <= 1048576 /\ (∀ y ∈ x.Log, y.sok) /\ True
theorem Table.sok_of {x : Table} (h : sizTable x <= 1048576) : x.sok := by
 unfold sizTable at h
 unfold sizTEvS at h
 unfold sizTJobS at h
 unfold sizTQueueS at h
 exact ⟨Base.sok_of (by omega), by omega, by omega, fun y hy => TJob.sok_of (by have := aI sizTJob hy; omega), by omega, fun y hy => TQueue.sok_of (by have := aI sizTQueue hy; omega), by omega, fun y hy => TEv.sok_of (by have := aI sizTEv hy; omega), trivial⟩
def mcTable (x : Table) : Nat := mcBase x.Base + 3 * x.Bkts.length + cntTJobS x.Jobs + cntTQueueS x.Todo + cntTEvS x.Log
theorem ld (x : Table) : mcTable x <= 32 * sizTable x := by
 have := mk x.Base
 have := jT x.Jobs
 have := hU x.Todo
 have := lc x.Log
 unfold mcTable sizTable
 omega
theorem c103 (l : List Int) (k : Int) (hk0 : 0 <= k) (hk : k + 1 * l.length <= 4611686018427387904) : Ctr prog 103 [.one (.own 0), .one (.dat (.int .i64 k))] [.vec 1 true (l.map encI)] (.one (.dat (.int .i64 (k + 1 * l.length)))) [.vec 1 true (markInts k l.length)] := by
 refine Ctr.of_body aa func103 rfl (by kernel_rfl) (Nat.le_of_ble_eq_true rfl) (by simp [AV.Clean, AV.Clean1, Leaf.Clean, D.flat]) (by simp [AObj.Sep]) (by simp) ?_ (by simp [AV.Low, AV.Low1, Leaf.Low]) ?_
 ·intro o ho
  have : o = 0 := by simpa using ho
  subst this
  simp [Objs, Compat, markInts]
 show wpA _ _ _ (FinQ _ _ _ _ _) _
 unfold markInts
 refine evl ?_
 refine ab (fun n s => ∃ i : Nat, i <= l.length /\ n = l.length - i /\ s = mkSt [(5, .one (.dat (.int .i64 i))), (1, .one (.dat (.int .i64 (k + 1 * (i : Nat))))), (0, .one (.own 0))]
   [.vec 1 true ((List.range i).map (fun i => encI (k + 1 * (i : Nat))) ++ (l.drop i).map encI)]) l.length _
  (Ent.wk [0]) ⟨0, by omega, by omega, rfl⟩ ?_
 rintro n s ⟨i, hi, rfl, rfl⟩ K hK
 have hlen : ((List.range i).map (fun i => encI (k + 1 * (i : Nat))) ++ (l.drop i).map encI).length = l.length := by simp; omega
 rcases Nat.lt_or_ge i l.length with hlt | hge
 ·have hA : ((List.range i).map (fun i => encI (k + 1 * (i : Nat)))).length = i := by simp
  have hd : decide ((i : Int) < l.length) = true := by simpa using hlt
  have hw := ai hlt (show l.length <= maxLen by unfold maxLen; omega)
  have hw1 : IntKind.i64.wrap (k + 1 * (i : Int) + 1) = k + 1 * (i : Int) + 1 := by rw [IntKind.wrap_i64]; omega
  rw [List.drop_eq_getElem_cons hlt, List.map_cons] at hlen ⊢
  generalize hAd : (List.range i).map (fun i => encI (k + 1 * (i : Nat))) = A at hA hlen ⊢
  have hl1 : ∀ x, (A ++ x :: (l.drop (i + 1)).map encI).length = l.length := fun x => by
   rw [List.length_append, List.length_cons] at hlen ⊢; exact hlen
  simp (maxSteps := 2000000) only [go_sem, seval, hl1, hd, aX hA, aP hA, encI, hw, hw1, D.flat]
  refine scs ?_
  apply hK
  refine ⟨l.length - (i + 1), _, by omega, Ent.weak (ids := [0]) (by simp) rfl (by simp) ?_ ?_ (by simp [objsLe, envLe, find, St.obj, AObj.renF, AV.renF, AV.renF1, Leaf.renF, LowAll, AV.Low, AV.Low1, Leaf.Low, AObj.Low, Ptr.renF, Ptr.Low]), i + 1, by omega, rfl, rfl⟩
  ·rw [List.range_succ, List.map_append, hAd]
   simp [objsLe, envLe, find, St.obj, AObj.renF, AV.renF, AV.renF1, Leaf.renF, LowAll, AV.Low, AV.Low1, Leaf.Low, AObj.Low, Ptr.renF, Ptr.Low]
   rfl
  ·simp [objsLe, envLe, find, St.obj, AObj.renF, AV.renF, AV.renF1, Leaf.renF, LowAll, AV.Low, AV.Low1, Leaf.Low, AObj.Low, Ptr.renF, Ptr.Low]
   omega
 ·have hge' : i = l.length := by omega
  subst hge'
  have hd : decide ((l.length : Int) < l.length) = false := by simp
  refine sv1 ?_
  apply hK
  refine evl ?_
  refine Fin.nt results103 [0] ?_ ?_ ?_ <;> try trivial
  rw [List.drop_length, List.map_nil, List.append_nil]
  simp [objsLe, envLe, find, St.obj, AObj.renF, AV.renF, AV.renF1, Leaf.renF, LowAll, AV.Low, AV.Low1, Leaf.Low, AObj.Low, Ptr.renF, Ptr.Low]
theorem gc (l : List Int) (k : Int) (hk0 : 0 <= k) (hk : k + 1 * l.length <= 4611686018427387904) : Ctr prog 103 [.one (.own 0), .one (.dat (.int .i64 k))] [.vec 1 true (l.map encI)] (.one (.dat (.int .i64 (k + 1 * l.length)))) [.dead] := Ctr.drop (c103 l k hk0 hk) rfl
theorem gd (l : List Int) (k : Int) (hk0 : 0 <= k) (hk : k + 1 * l.length <= 4611686018427387904) : Ctr prog 103 [.one (.own 0), .one (.dat (.int .i64 k))] [lent 1 (l.map encI)] (.one (.dat (.int .i64 (k + 1 * l.length)))) [.dead] := by
 cases l with
 | cons x l => exact gc (x :: l) k hk0 hk
 | nil =>
  show Ctr prog 103 [.one (.own 0), .one (.dat (.int .i64 k))] [.frz 1 []] (.one (.dat (.int .i64 (k + 1 * ((0 : Nat) : Int))))) [.dead]
  rw [show k + 1 * ((0 : Nat) : Int) = k by omega]
  refine Ctr.bg aa func103 rfl ?_
  refine evl ?_
  refine ab (fun zn zs => zn = 0 /\ zs = mkSt [(5, .one (.dat (.int .i64 0))), (1, .one (.dat (.int .i64 k))), (0, .one (.own 0))] [.frz 1 []]) 0 _ (Ent.wk [0]) ⟨rfl, rfl⟩ ?_
  rintro zn zs ⟨rfl, rfl⟩ K hK
  have hd0 : decide ((0 : Int) < ((0 : Nat) : Int)) = false := rfl
  refine sv5 ?_
  apply hK
  refine evl ?_
  refine Fin.nt results103 [0] ?_ ?_ ?_ <;> try trivial
  all_goals exact entd
theorem c191 (x : Heap) (hx : x.sok) (k : Int) (hk0 : 0 <= k) (hk : k + (mcHeap x : Int) <= 4611686018427387904) : Ctr prog 191 [.agg [.own 0, .own 1], .one (.dat (.int .i64 k))] [.vec 1 true (x.Bytes.map encI), .vec 1 true (x.Class.map encI)] (.one (.dat (.int .i64 (k + (mcHeap x : Int))))) [.dead, .dead] := by
 have hmc : mcHeap x = 1 * x.Bytes.length + 1 * x.Class.length := rfl
 obtain ⟨q0, q1, _⟩ := hx
 refine Ctr.bg aa func191 rfl ?_
 refine evl ?_
 refine scs ?_
 refine ar [0] e103 (by simp [osOk, St.obj, find]) (gc x.Bytes (k) (by omega) (by omega)) rfl ?_
 refine evl ?_
 refine scs ?_
 refine ar [1] e103 (by simp [osOk, St.obj, find]) (gc x.Class ((k + 1 * (x.Bytes.length : Int))) (by omega) (by omega)) rfl ?_
 refine evl ?_
 rw [show ((k + 1 * (x.Bytes.length : Int)) + 1 * (x.Class.length : Int)) = k + (mcHeap x : Int) by omega]
 refine Fin.nt results191 [0, 1] ?_ ?_ ?_ <;> try trivial
 all_goals exact entd
theorem mm (l : List SList) (hl : l.length <= 1048576) (hq : ∀ x ∈ l, x.sok) (k : Int) (hk0 : 0 <= k) (hk : k + (cntSListS l : Int) <= 4611686018427387904) : Ctr prog 280 [.one (.own 0), .one (.dat (.int .i64 k))] [.vec 1 true (l.map encSList)] (.one (.dat (.int .i64 (k + (cntSListS l : Int))))) [.dead] := by
 refine Ctr.bg aa func280 rfl ?_
 refine evl ?_
 refine ab (fun zn zs => ∃ (i : Nat) (R : List (List D)) (kk : Int), i <= l.length /\ zn = l.length - i /\ (R.length = l.length /\ R.drop i = (l.drop i).map encSList /\ 0 <= kk /\ kk + (cntSListS (l.drop i) : Int) = k + (cntSListS l : Int)) /\ zs = mkSt [(5, .one (.dat (.int .i64 i))), (1, .one (.dat (.int .i64 kk))), (0, .one (.own 0))] [.vec 1 true R]) l.length _
  (Ent.wk [0]) ⟨0, l.map encSList, k, by omega, by omega, ⟨by simp, rfl, hk0, rfl⟩, rfl⟩ ?_
 rintro zn zs ⟨i, R, kk, hi, rfl, ⟨hR1, hR2, hk1, hk2⟩, rfl⟩ K hK
 rcases Nat.lt_or_ge i l.length with hlt | hge
 ·have hd : decide ((i : Int) < ((l.length : Nat) : Int)) = true := decide_eq_true (by omega)
  have hw := ai hlt (show l.length <= maxLen by unfold maxLen; omega)
  have hqx := hq l[i] (List.getElem_mem hlt)
  rw [List.drop_eq_getElem_cons hlt] at hk2 hR2
  rw [List.map_cons] at hR2
  generalize l[i] = x at hk2 hR2 hqx
  obtain ⟨q0, _⟩ := hqx
  rw [de] at hk2
  have hcx : cntSList x = 1 * x.Slots.length := rfl
  have hA : (R.take i).length = i := by rw [List.length_take]; omega
  have hR : R = R.take i ++ encSList x :: (l.drop (i + 1)).map encSList := by rw [<- hR2, List.take_append_drop]
  generalize hB : (l.drop (i + 1)).map encSList = B at hR
  generalize R.take i = A at hA hR
  subst hR
  have hl1 : ∀ y, (A ++ y :: B).length = l.length := fun y => by rw [List.length_append, List.length_cons] at hR1 ⊢; exact hR1
  clear hR2
  refine sv6 ?_
  refine scs ?_
  intro v0
  try (refine sv6 ?_)
  refine scs ?_
  refine ar [1] e103 (by simp [osOk, St.obj, find]) (gd x.Slots (kk) (by omega) (by omega)) rfl ?_
  refine sv6 ?_
  refine scs ?_
  apply hK
  refine ⟨l.length - (i + 1), _, by omega, Ent.wk [0] (h4 := bF (Nat.zero_lt_succ _) rfl), i + 1, _, (kk + 1 * (x.Slots.length : Int)), by omega, rfl, ⟨hl1 _, ?_, by omega, by omega⟩, rfl⟩
  rw [b8 hA, hB]
 ·have hge' : i = l.length := by omega
  subst hge'
  rw [List.drop_length] at hk2
  have hkk : kk = k + (cntSListS l : Int) := by rw [<- hk2]; simp [cntSListS]
  have hd : decide (((l.length : Nat) : Int) < ((l.length : Nat) : Int)) = false := by simp
  refine sv7 ?_
  apply hK
  refine evl ?_
  rw [hkk]
  refine Fin.nt results280 [0] ?_ ?_ ?_ <;> try trivial
  all_goals exact entd
theorem c192 (x : Lists) (hx : x.sok) (k : Int) (hk0 : 0 <= k) (hk : k + (mcLists x : Int) <= 4611686018427387904) : Ctr prog 192 [.agg [.own 0, .own 1], .one (.dat (.int .i64 k))] [.vec 1 true (x.Global.map encSList), .vec 1 true (x.Own.map encSList)] (.one (.dat (.int .i64 (k + (mcLists x : Int))))) [.dead, .dead] := by
 have hmc : mcLists x = cntSListS x.Global + cntSListS x.Own := rfl
 obtain ⟨q0, q1, q2, q3, _⟩ := hx
 refine Ctr.bg aa func192 rfl ?_
 refine evl ?_
 refine scs ?_
 refine ar [0] e280 (by simp [osOk, St.obj, find]) (mm x.Global q0 q1 (k) (by omega) (by omega)) rfl ?_
 refine evl ?_
 refine scs ?_
 refine ar [1] e280 (by simp [osOk, St.obj, find]) (mm x.Own q2 q3 ((k + (cntSListS x.Global : Int))) (by omega) (by omega)) rfl ?_
 refine evl ?_
 rw [show ((k + (cntSListS x.Global : Int)) + (cntSListS x.Own : Int)) = k + (mcLists x : Int) by omega]
 refine Fin.nt results192 [0, 1] ?_ ?_ ?_ <;> try trivial
 all_goals exact entd
theorem c100 (x : Mem) (hx : x.sok) (k : Int) (hk0 : 0 <= k) (hk : k + (mcMem x : Int) <= 4611686018427387904) : Ctr prog 100 [.agg [.own 0, .own 1, .own 2, .own 3], .one (.dat (.int .i64 k))] [.vec 1 true (x.Heap.Bytes.map encI), .vec 1 true (x.Heap.Class.map encI), .vec 1 true (x.Lists.Global.map encSList), .vec 1 true (x.Lists.Own.map encSList)] (.one (.dat (.int .i64 (k + (mcMem x : Int))))) [.dead, .dead, .dead, .dead] := by
 have hmc : mcMem x = mcHeap x.Heap + mcLists x.Lists := rfl
 obtain ⟨q0, q1, _⟩ := hx
 refine Ctr.bg aa func100 rfl ?_
 refine evl ?_
 refine scs ?_
 refine ar [0, 1] e191 (by simp [osOk, St.obj, find]) (c191 x.Heap q0 (k) (by omega) (by omega)) rfl ?_
 refine evl ?_
 refine scs ?_
 refine ar [2, 3] e192 (by simp [osOk, St.obj, find]) (c192 x.Lists q1 ((k + (mcHeap x.Heap : Int))) (by omega) (by omega)) rfl ?_
 refine evl ?_
 rw [show ((k + (mcHeap x.Heap : Int)) + (mcLists x.Lists : Int)) = k + (mcMem x : Int) by omega]
 refine Fin.nt results100 [0, 1, 2, 3] ?_ ?_ ?_ <;> try trivial
 all_goals exact entd
theorem oY (l : List Pin) (k : Int) (hk0 : 0 <= k) (hk : k + 4 * l.length <= 4611686018427387904) : Ctr prog 193 [.one (.own 0), .one (.dat (.int .i64 k))] [.vec 4 true (l.map encPin)] (.one (.dat (.int .i64 (k + 4 * l.length)))) [.dead] := Ctr.drop (c193 l k hk0 hk) rfl
theorem c101 (x : Clock) (hx : x.sok) (k : Int) (hk0 : 0 <= k) (hk : k + (mcClock x : Int) <= 4611686018427387904) : Ctr prog 101 [.agg [.dat (.int .i64 x.Epoch), .own 0], .one (.dat (.int .i64 k))] [.vec 4 true (x.Pins.map encPin)] (.one (.dat (.int .i64 (k + (mcClock x : Int))))) [.dead] := by
 have hmc : mcClock x = 4 * x.Pins.length := rfl
 obtain ⟨q0, _⟩ := hx
 refine Ctr.bg aa func101 rfl ?_
 refine evl ?_
 refine scs ?_
 refine ar [0] e193 (by simp [osOk, St.obj, find]) (oY x.Pins (k) (by omega) (by omega)) rfl ?_
 refine evl ?_
 rw [show (k + 4 * (x.Pins.length : Int)) = k + (mcClock x : Int) by omega]
 refine Fin.nt results101 [0] ?_ ?_ ?_ <;> try trivial
 all_goals exact entd
theorem oZ (l : List LRow) (k : Int) (hk0 : 0 <= k) (hk : k + 2 * l.length <= 4611686018427387904) : Ctr prog 194 [.one (.own 0), .one (.dat (.int .i64 k))] [.vec 2 true (l.map encLRow)] (.one (.dat (.int .i64 (k + 2 * l.length)))) [.dead] := Ctr.drop (c194 l k hk0 hk) rfl
theorem o0 (l : List LRow) (k : Int) (hk0 : 0 <= k) (hk : k + 2 * l.length <= 4611686018427387904) : Ctr prog 194 [.one (.own 0), .one (.dat (.int .i64 k))] [lent 2 (l.map encLRow)] (.one (.dat (.int .i64 (k + 2 * l.length)))) [.dead] := by
 cases l with
 | cons x l => exact oZ (x :: l) k hk0 hk
 | nil =>
  show Ctr prog 194 [.one (.own 0), .one (.dat (.int .i64 k))] [.frz 2 []] (.one (.dat (.int .i64 (k + 2 * ((0 : Nat) : Int))))) [.dead]
  rw [show k + 2 * ((0 : Nat) : Int) = k by omega]
  refine Ctr.bg aa func194 rfl ?_
  refine evl ?_
  refine ab (fun zn zs => zn = 0 /\ zs = mkSt [(5, .one (.dat (.int .i64 0))), (1, .one (.dat (.int .i64 k))), (0, .one (.own 0))] [.frz 2 []]) 0 _ (Ent.wk [0]) ⟨rfl, rfl⟩ ?_
  rintro zn zs ⟨rfl, rfl⟩ K hK
  have hd0 : decide ((0 : Int) < ((0 : Nat) : Int)) = false := rfl
  refine sv5 ?_
  apply hK
  refine evl ?_
  refine Fin.nt results194 [0] ?_ ?_ ?_ <;> try trivial
  all_goals exact entd
theorem o3 (l : List LList) (hl : l.length <= 1048576) (hq : ∀ x ∈ l, x.sok) (k : Int) (hk0 : 0 <= k) (hk : k + (cntLListS l : Int) <= 4611686018427387904) : Ctr prog 102 [.one (.own 0), .one (.dat (.int .i64 k))] [.vec 1 true (l.map encLList)] (.one (.dat (.int .i64 (k + (cntLListS l : Int))))) [.dead] := by
 refine Ctr.bg aa func102 rfl ?_
 refine evl ?_
 refine ab (fun zn zs => ∃ (i : Nat) (R : List (List D)) (kk : Int), i <= l.length /\ zn = l.length - i /\ (R.length = l.length /\ R.drop i = (l.drop i).map encLList /\ 0 <= kk /\ kk + (cntLListS (l.drop i) : Int) = k + (cntLListS l : Int)) /\ zs = mkSt [(5, .one (.dat (.int .i64 i))), (1, .one (.dat (.int .i64 kk))), (0, .one (.own 0))] [.vec 1 true R]) l.length _
  (Ent.wk [0]) ⟨0, l.map encLList, k, by omega, by omega, ⟨by simp, rfl, hk0, rfl⟩, rfl⟩ ?_
 rintro zn zs ⟨i, R, kk, hi, rfl, ⟨hR1, hR2, hk1, hk2⟩, rfl⟩ K hK
 rcases Nat.lt_or_ge i l.length with hlt | hge
 ·have hd : decide ((i : Int) < ((l.length : Nat) : Int)) = true := decide_eq_true (by omega)
  have hw := ai hlt (show l.length <= maxLen by unfold maxLen; omega)
  have hqx := hq l[i] (List.getElem_mem hlt)
  rw [List.drop_eq_getElem_cons hlt] at hk2 hR2
  rw [List.map_cons] at hR2
  generalize l[i] = x at hk2 hR2 hqx
  obtain ⟨q0, _⟩ := hqx
  rw [df] at hk2
  have hcx : cntLList x = 2 * x.Rows.length := rfl
  have hA : (R.take i).length = i := by rw [List.length_take]; omega
  have hR : R = R.take i ++ encLList x :: (l.drop (i + 1)).map encLList := by rw [<- hR2, List.take_append_drop]
  generalize hB : (l.drop (i + 1)).map encLList = B at hR
  generalize R.take i = A at hA hR
  subst hR
  have hl1 : ∀ y, (A ++ y :: B).length = l.length := fun y => by rw [List.length_append, List.length_cons] at hR1 ⊢; exact hR1
  clear hR2
  refine sv8 ?_
  refine scs ?_
  intro v0
  try (refine sv8 ?_)
  refine scs ?_
  refine ar [1] e194 (by simp [osOk, St.obj, find]) (o0 x.Rows (kk) (by omega) (by omega)) rfl ?_
  refine sv8 ?_
  refine scs ?_
  apply hK
  refine ⟨l.length - (i + 1), _, by omega, Ent.wk [0] (h4 := bF (Nat.zero_lt_succ _) rfl), i + 1, _, (kk + 2 * (x.Rows.length : Int)), by omega, rfl, ⟨hl1 _, ?_, by omega, by omega⟩, rfl⟩
  rw [b8 hA, hB]
 ·have hge' : i = l.length := by omega
  subst hge'
  rw [List.drop_length] at hk2
  have hkk : kk = k + (cntLListS l : Int) := by rw [<- hk2]; simp [cntLListS]
  have hd : decide (((l.length : Nat) : Int) < ((l.length : Nat) : Int)) = false := by simp
  refine sv7 ?_
  apply hK
  refine evl ?_
  rw [hkk]
  refine Fin.nt results102 [0] ?_ ?_ ?_ <;> try trivial
  all_goals exact entd
theorem c38 (x : Base) (hx : x.sok) (k : Int) (hk0 : 0 <= k) (hk : k + (mcBase x : Int) <= 4611686018427387904) : Ctr prog 38 [.agg [.own 0, .own 1, .own 2, .own 3, .dat (.int .i64 x.Clock.Epoch), .own 4, .own 5, .own 6], .one (.dat (.int .i64 k))] [.vec 1 true (x.Mem.Heap.Bytes.map encI), .vec 1 true (x.Mem.Heap.Class.map encI), .vec 1 true (x.Mem.Lists.Global.map encSList), .vec 1 true (x.Mem.Lists.Own.map encSList), .vec 4 true (x.Clock.Pins.map encPin), .vec 1 true (x.Limbo.map encLList), .vec 1 true (x.Haz.map encI)] (.one (.dat (.int .i64 (k + (mcBase x : Int))))) [.dead, .dead, .dead, .dead, .dead, .dead, .dead] := by
 have hmc : mcBase x = mcMem x.Mem + mcClock x.Clock + cntLListS x.Limbo + 1 * x.Haz.length := rfl
 obtain ⟨q0, q1, q2, q3, q4, _⟩ := hx
 refine Ctr.bg aa func38 rfl ?_
 refine evl ?_
 refine scs ?_
 refine ar [0, 1, 2, 3] e100 (by simp [osOk, St.obj, find]) (c100 x.Mem q0 (k) (by omega) (by omega)) rfl ?_
 refine evl ?_
 refine scs ?_
 refine ar [4] e101 (by simp [osOk, St.obj, find]) (c101 x.Clock q1 ((k + (mcMem x.Mem : Int))) (by omega) (by omega)) rfl ?_
 refine evl ?_
 refine scs ?_
 refine ar [5] e102 (by simp [osOk, St.obj, find]) (o3 x.Limbo q2 q3 (((k + (mcMem x.Mem : Int)) + (mcClock x.Clock : Int))) (by omega) (by omega)) rfl ?_
 refine evl ?_
 refine scs ?_
 refine ar [6] e103 (by simp [osOk, St.obj, find]) (gc x.Haz ((((k + (mcMem x.Mem : Int)) + (mcClock x.Clock : Int)) + (cntLListS x.Limbo : Int))) (by omega) (by omega)) rfl ?_
 refine evl ?_
 rw [show ((((k + (mcMem x.Mem : Int)) + (mcClock x.Clock : Int)) + (cntLListS x.Limbo : Int)) + 1 * (x.Haz.length : Int)) = k + (mcBase x : Int) by omega]
 refine Fin.nt results38 [0, 1, 2, 3, 4, 5, 6] ?_ ?_ ?_ <;> try trivial
 all_goals exact entd
theorem nw (l : List Bkt) (k : Int) (hk0 : 0 <= k) (hk : k + 3 * l.length <= 4611686018427387904) : Ctr prog 39 [.one (.own 0), .one (.dat (.int .i64 k))] [.vec 3 true (l.map encBkt)] (.one (.dat (.int .i64 (k + 3 * l.length)))) [.dead] := Ctr.drop (c39 l k hk0 hk) rfl
theorem qq (l : List Bkt) (k : Int) (hk0 : 0 <= k) (hk : k + 3 * l.length <= 4611686018427387904) : Ctr prog 39 [.one (.own 0), .one (.dat (.int .i64 k))] [lent 3 (l.map encBkt)] (.one (.dat (.int .i64 (k + 3 * l.length)))) [.dead] := by
 cases l with
 | cons x l => exact nw (x :: l) k hk0 hk
 | nil =>
  show Ctr prog 39 [.one (.own 0), .one (.dat (.int .i64 k))] [.frz 3 []] (.one (.dat (.int .i64 (k + 3 * ((0 : Nat) : Int))))) [.dead]
  rw [show k + 3 * ((0 : Nat) : Int) = k by omega]
  refine Ctr.bg aa func39 rfl ?_
  refine evl ?_
  refine ab (fun zn zs => zn = 0 /\ zs = mkSt [(5, .one (.dat (.int .i64 0))), (1, .one (.dat (.int .i64 k))), (0, .one (.own 0))] [.frz 3 []]) 0 _ (Ent.wk [0]) ⟨rfl, rfl⟩ ?_
  rintro zn zs ⟨rfl, rfl⟩ K hK
  have hd0 : decide ((0 : Int) < ((0 : Nat) : Int)) = false := rfl
  refine sv5 ?_
  apply hK
  refine evl ?_
  refine Fin.nt results39 [0] ?_ ?_ ?_ <;> try trivial
  all_goals exact entd
theorem pw (l : List Cmd) (k : Int) (hk0 : 0 <= k) (hk : k + 3 * l.length <= 4611686018427387904) : Ctr prog 99 [.one (.own 0), .one (.dat (.int .i64 k))] [.vec 3 true (l.map encCmd)] (.one (.dat (.int .i64 (k + 3 * l.length)))) [.dead] := Ctr.drop (c99 l k hk0 hk) rfl
theorem lg (l : List Cmd) (k : Int) (hk0 : 0 <= k) (hk : k + 3 * l.length <= 4611686018427387904) : Ctr prog 99 [.one (.own 0), .one (.dat (.int .i64 k))] [lent 3 (l.map encCmd)] (.one (.dat (.int .i64 (k + 3 * l.length)))) [.dead] := by
 cases l with
 | cons x l => exact pw (x :: l) k hk0 hk
 | nil =>
  show Ctr prog 99 [.one (.own 0), .one (.dat (.int .i64 k))] [.frz 3 []] (.one (.dat (.int .i64 (k + 3 * ((0 : Nat) : Int))))) [.dead]
  rw [show k + 3 * ((0 : Nat) : Int) = k by omega]
  refine Ctr.bg aa func99 rfl ?_
  refine evl ?_
  refine ab (fun zn zs => zn = 0 /\ zs = mkSt [(5, .one (.dat (.int .i64 0))), (1, .one (.dat (.int .i64 k))), (0, .one (.own 0))] [.frz 3 []]) 0 _ (Ent.wk [0]) ⟨rfl, rfl⟩ ?_
  rintro zn zs ⟨rfl, rfl⟩ K hK
  have hd0 : decide ((0 : Int) < ((0 : Nat) : Int)) = false := rfl
  refine sv5 ?_
  apply hK
  refine evl ?_
  refine Fin.nt results99 [0] ?_ ?_ ?_ <;> try trivial
  all_goals exact entd
theorem o4 (l : List Seen) (k : Int) (hk0 : 0 <= k) (hk : k + 2 * l.length <= 4611686018427387904) : Ctr prog 104 [.one (.own 0), .one (.dat (.int .i64 k))] [.vec 2 true (l.map encSeen)] (.one (.dat (.int .i64 (k + 2 * l.length)))) [.dead] := Ctr.drop (c104 l k hk0 hk) rfl
theorem o5 (l : List Seen) (k : Int) (hk0 : 0 <= k) (hk : k + 2 * l.length <= 4611686018427387904) : Ctr prog 104 [.one (.own 0), .one (.dat (.int .i64 k))] [lent 2 (l.map encSeen)] (.one (.dat (.int .i64 (k + 2 * l.length)))) [.dead] := by
 cases l with
 | cons x l => exact o4 (x :: l) k hk0 hk
 | nil =>
  show Ctr prog 104 [.one (.own 0), .one (.dat (.int .i64 k))] [.frz 2 []] (.one (.dat (.int .i64 (k + 2 * ((0 : Nat) : Int))))) [.dead]
  rw [show k + 2 * ((0 : Nat) : Int) = k by omega]
  refine Ctr.bg aa func104 rfl ?_
  refine evl ?_
  refine ab (fun zn zs => zn = 0 /\ zs = mkSt [(5, .one (.dat (.int .i64 0))), (1, .one (.dat (.int .i64 k))), (0, .one (.own 0))] [.frz 2 []]) 0 _ (Ent.wk [0]) ⟨rfl, rfl⟩ ?_
  rintro zn zs ⟨rfl, rfl⟩ K hK
  have hd0 : decide ((0 : Int) < ((0 : Nat) : Int)) = false := rfl
  refine sv5 ?_
  apply hK
  refine evl ?_
  refine Fin.nt results104 [0] ?_ ?_ ?_ <;> try trivial
  all_goals exact entd
theorem o6 (l : List Write) (k : Int) (hk0 : 0 <= k) (hk : k + 3 * l.length <= 4611686018427387904) : Ctr prog 105 [.one (.own 0), .one (.dat (.int .i64 k))] [.vec 3 true (l.map encWrite)] (.one (.dat (.int .i64 (k + 3 * l.length)))) [.dead] := Ctr.drop (c105 l k hk0 hk) rfl
theorem o7 (l : List Write) (k : Int) (hk0 : 0 <= k) (hk : k + 3 * l.length <= 4611686018427387904) : Ctr prog 105 [.one (.own 0), .one (.dat (.int .i64 k))] [lent 3 (l.map encWrite)] (.one (.dat (.int .i64 (k + 3 * l.length)))) [.dead] := by
 cases l with
 | cons x l => exact o6 (x :: l) k hk0 hk
 | nil =>
  show Ctr prog 105 [.one (.own 0), .one (.dat (.int .i64 k))] [.frz 3 []] (.one (.dat (.int .i64 (k + 3 * ((0 : Nat) : Int))))) [.dead]
  rw [show k + 3 * ((0 : Nat) : Int) = k by omega]
  refine Ctr.bg aa func105 rfl ?_
  refine evl ?_
  refine ab (fun zn zs => zn = 0 /\ zs = mkSt [(5, .one (.dat (.int .i64 0))), (1, .one (.dat (.int .i64 k))), (0, .one (.own 0))] [.frz 3 []]) 0 _ (Ent.wk [0]) ⟨rfl, rfl⟩ ?_
  rintro zn zs ⟨rfl, rfl⟩ K hK
  have hd0 : decide ((0 : Int) < ((0 : Nat) : Int)) = false := rfl
  refine sv5 ?_
  apply hK
  refine evl ?_
  refine Fin.nt results105 [0] ?_ ?_ ?_ <;> try trivial
  all_goals exact entd
theorem px (l : List Batch) (hl : l.length <= 1048576) (hq : ∀ x ∈ l, x.sok) (k : Int) (hk0 : 0 <= k) (hk : k + (cntBatchS l : Int) <= 4611686018427387904) : Ctr prog 37 [.one (.own 0), .one (.dat (.int .i64 k))] [.vec 2 true (l.map encBatch)] (.one (.dat (.int .i64 (k + (cntBatchS l : Int))))) [.dead] := by
 refine Ctr.bg aa func37 rfl ?_
 refine evl ?_
 refine ab (fun zn zs => ∃ (i : Nat) (R : List (List D)) (kk : Int), i <= l.length /\ zn = l.length - i /\ (R.length = l.length /\ R.drop i = (l.drop i).map encBatch /\ 0 <= kk /\ kk + (cntBatchS (l.drop i) : Int) = k + (cntBatchS l : Int)) /\ zs = mkSt [(5, .one (.dat (.int .i64 i))), (1, .one (.dat (.int .i64 kk))), (0, .one (.own 0))] [.vec 2 true R]) l.length _
  (Ent.wk [0]) ⟨0, l.map encBatch, k, by omega, by omega, ⟨by simp, rfl, hk0, rfl⟩, rfl⟩ ?_
 rintro zn zs ⟨i, R, kk, hi, rfl, ⟨hR1, hR2, hk1, hk2⟩, rfl⟩ K hK
 rcases Nat.lt_or_ge i l.length with hlt | hge
 ·have hd : decide ((i : Int) < ((l.length : Nat) : Int)) = true := decide_eq_true (by omega)
  have hw := ai hlt (show l.length <= maxLen by unfold maxLen; omega)
  have hqx := hq l[i] (List.getElem_mem hlt)
  rw [List.drop_eq_getElem_cons hlt] at hk2 hR2
  rw [List.map_cons] at hR2
  generalize l[i] = x at hk2 hR2 hqx
  obtain ⟨q0, _⟩ := hqx
  rw [dg] at hk2
  have hcx : cntBatch x = 1 + 3 * x.Cmds.length := rfl
  have hA : (R.take i).length = i := by rw [List.length_take]; omega
  have hR : R = R.take i ++ encBatch x :: (l.drop (i + 1)).map encBatch := by rw [<- hR2, List.take_append_drop]
  generalize hB : (l.drop (i + 1)).map encBatch = B at hR
  generalize R.take i = A at hA hR
  subst hR
  have hl1 : ∀ y, (A ++ y :: B).length = l.length := fun y => by rw [List.length_append, List.length_cons] at hR1 ⊢; exact hR1
  clear hR2
  obtain ⟨k1, hk1e⟩ : ∃ z, z = kk + 1 := ⟨_, rfl⟩
  have hw1 : IntKind.i64.wrap (kk + 1) = k1 := by rw [hk1e, IntKind.wrap_i64]; omega
  refine sv9 ?_
  refine scs ?_
  intro v0
  try (refine sv9 ?_)
  refine scs ?_
  refine ar [1] e99 (by simp [osOk, St.obj, find]) (lg x.Cmds (k1) (by omega) (by omega)) rfl ?_
  refine sv9 ?_
  refine scs ?_
  apply hK
  refine ⟨l.length - (i + 1), _, by omega, Ent.wk [0] (h4 := bF (Nat.zero_lt_succ _) rfl), i + 1, _, (k1 + 3 * (x.Cmds.length : Int)), by omega, rfl, ⟨hl1 _, ?_, by omega, by omega⟩, rfl⟩
  rw [b8 hA, hB]
 ·have hge' : i = l.length := by omega
  subst hge'
  rw [List.drop_length] at hk2
  have hkk : kk = k + (cntBatchS l : Int) := by rw [<- hk2]; simp [cntBatchS]
  have hd : decide (((l.length : Nat) : Int) < ((l.length : Nat) : Int)) = false := by simp
  refine sv7 ?_
  apply hK
  refine evl ?_
  rw [hkk]
  refine Fin.nt results37 [0] ?_ ?_ ?_ <;> try trivial
  all_goals exact entd
theorem py (l : List Batch) (hl : l.length <= 1048576) (hq : ∀ x ∈ l, x.sok) (k : Int) (hk0 : 0 <= k) (hk : k + (cntBatchS l : Int) <= 4611686018427387904) : Ctr prog 37 [.one (.own 0), .one (.dat (.int .i64 k))] [lent 2 (l.map encBatch)] (.one (.dat (.int .i64 (k + (cntBatchS l : Int))))) [.dead] := by
 cases l with
 | cons x l => exact px (x :: l) hl hq k hk0 hk
 | nil =>
  show Ctr prog 37 [.one (.own 0), .one (.dat (.int .i64 k))] [.frz 2 []] (.one (.dat (.int .i64 (k + (cntBatchS [] : Int))))) [.dead]
  rw [show k + (cntBatchS [] : Int) = k by simp [cntBatchS]]
  refine Ctr.bg aa func37 rfl ?_
  refine evl ?_
  refine ab (fun zn zs => zn = 0 /\ zs = mkSt [(5, .one (.dat (.int .i64 0))), (1, .one (.dat (.int .i64 k))), (0, .one (.own 0))] [.frz 2 []]) 0 _ (Ent.wk [0]) ⟨rfl, rfl⟩ ?_
  rintro zn zs ⟨rfl, rfl⟩ K hK
  have hd0 : decide ((0 : Int) < ((0 : Nat) : Int)) = false := rfl
  refine sv5 ?_
  apply hK
  refine evl ?_
  refine Fin.nt results37 [0] ?_ ?_ ?_ <;> try trivial
  all_goals exact entd
theorem pz (l : List TQueue) (hl : l.length <= 1048576) (hq : ∀ x ∈ l, x.sok) (k : Int) (hk0 : 0 <= k) (hk : k + (cntTQueueS l : Int) <= 4611686018427387904) : Ctr prog 12 [.one (.own 0), .one (.dat (.int .i64 k))] [.vec 1 true (l.map encTQueue)] (.one (.dat (.int .i64 (k + (cntTQueueS l : Int))))) [.dead] := by
 refine Ctr.bg aa func12 rfl ?_
 refine evl ?_
 refine ab (fun zn zs => ∃ (i : Nat) (R : List (List D)) (kk : Int), i <= l.length /\ zn = l.length - i /\ (R.length = l.length /\ R.drop i = (l.drop i).map encTQueue /\ 0 <= kk /\ kk + (cntTQueueS (l.drop i) : Int) = k + (cntTQueueS l : Int)) /\ zs = mkSt [(5, .one (.dat (.int .i64 i))), (1, .one (.dat (.int .i64 kk))), (0, .one (.own 0))] [.vec 1 true R]) l.length _
  (Ent.wk [0]) ⟨0, l.map encTQueue, k, by omega, by omega, ⟨by simp, rfl, hk0, rfl⟩, rfl⟩ ?_
 rintro zn zs ⟨i, R, kk, hi, rfl, ⟨hR1, hR2, hk1, hk2⟩, rfl⟩ K hK
 rcases Nat.lt_or_ge i l.length with hlt | hge
 ·have hd : decide ((i : Int) < ((l.length : Nat) : Int)) = true := decide_eq_true (by omega)
  have hw := ai hlt (show l.length <= maxLen by unfold maxLen; omega)
  have hqx := hq l[i] (List.getElem_mem hlt)
  rw [List.drop_eq_getElem_cons hlt] at hk2 hR2
  rw [List.map_cons] at hR2
  generalize l[i] = x at hk2 hR2 hqx
  obtain ⟨q0, q1, _⟩ := hqx
  rw [cR] at hk2
  have hcx : cntTQueue x = cntBatchS x.List := rfl
  have hA : (R.take i).length = i := by rw [List.length_take]; omega
  have hR : R = R.take i ++ encTQueue x :: (l.drop (i + 1)).map encTQueue := by rw [<- hR2, List.take_append_drop]
  generalize hB : (l.drop (i + 1)).map encTQueue = B at hR
  generalize R.take i = A at hA hR
  subst hR
  have hl1 : ∀ y, (A ++ y :: B).length = l.length := fun y => by rw [List.length_append, List.length_cons] at hR1 ⊢; exact hR1
  clear hR2
  refine sv10 ?_
  refine scs ?_
  intro v0
  try (refine sv10 ?_)
  refine scs ?_
  refine ar [1] e37 (by simp [osOk, St.obj, find]) (py x.List q0 q1 (kk) (by omega) (by omega)) rfl ?_
  refine sv10 ?_
  refine scs ?_
  apply hK
  refine ⟨l.length - (i + 1), _, by omega, Ent.wk [0] (h4 := bF (Nat.zero_lt_succ _) rfl), i + 1, _, (kk + (cntBatchS x.List : Int)), by omega, rfl, ⟨hl1 _, ?_, by omega, by omega⟩, rfl⟩
  rw [b8 hA, hB]
 ·have hge' : i = l.length := by omega
  subst hge'
  rw [List.drop_length] at hk2
  have hkk : kk = k + (cntTQueueS l : Int) := by rw [<- hk2]; simp [cntTQueueS]
  have hd : decide (((l.length : Nat) : Int) < ((l.length : Nat) : Int)) = false := by simp
  refine sv7 ?_
  apply hK
  refine evl ?_
  rw [hkk]
  refine Fin.nt results12 [0] ?_ ?_ ?_ <;> try trivial
  all_goals exact entd
theorem o8 (l : List Res) (k : Int) (hk0 : 0 <= k) (hk : k + 2 * l.length <= 4611686018427387904) : Ctr prog 106 [.one (.own 0), .one (.dat (.int .i64 k))] [.vec 2 true (l.map encRes)] (.one (.dat (.int .i64 (k + 2 * l.length)))) [.dead] := Ctr.drop (c106 l k hk0 hk) rfl
theorem mn (l : List Res) (k : Int) (hk0 : 0 <= k) (hk : k + 2 * l.length <= 4611686018427387904) : Ctr prog 106 [.one (.own 0), .one (.dat (.int .i64 k))] [lent 2 (l.map encRes)] (.one (.dat (.int .i64 (k + 2 * l.length)))) [.dead] := by
 cases l with
 | cons x l => exact o8 (x :: l) k hk0 hk
 | nil =>
  show Ctr prog 106 [.one (.own 0), .one (.dat (.int .i64 k))] [.frz 2 []] (.one (.dat (.int .i64 (k + 2 * ((0 : Nat) : Int))))) [.dead]
  rw [show k + 2 * ((0 : Nat) : Int) = k by omega]
  refine Ctr.bg aa func106 rfl ?_
  refine evl ?_
  refine ab (fun zn zs => zn = 0 /\ zs = mkSt [(5, .one (.dat (.int .i64 0))), (1, .one (.dat (.int .i64 k))), (0, .one (.own 0))] [.frz 2 []]) 0 _ (Ent.wk [0]) ⟨rfl, rfl⟩ ?_
  rintro zn zs ⟨rfl, rfl⟩ K hK
  have hd0 : decide ((0 : Int) < ((0 : Nat) : Int)) = false := rfl
  refine sv5 ?_
  apply hK
  refine evl ?_
  refine Fin.nt results106 [0] ?_ ?_ ?_ <;> try trivial
  all_goals exact entd
theorem pA (l : List TJob) (hl : l.length <= 1048576) (hq : ∀ x ∈ l, x.sok) (k : Int) (hk0 : 0 <= k) (hk : k + (cntTJobS l : Int) <= 4611686018427387904) : Ctr prog 40 [.one (.own 0), .one (.dat (.int .i64 k))] [.vec 32 true (l.map encTJob)] (.one (.dat (.int .i64 (k + (cntTJobS l : Int))))) [.dead] := by
 refine Ctr.bg aa func40 rfl ?_
 refine evl ?_
 refine ab (fun zn zs => ∃ (i : Nat) (R : List (List D)) (kk : Int), i <= l.length /\ zn = l.length - i /\ (R.length = l.length /\ R.drop i = (l.drop i).map encTJob /\ 0 <= kk /\ kk + (cntTJobS (l.drop i) : Int) = k + (cntTJobS l : Int)) /\ zs = mkSt [(5, .one (.dat (.int .i64 i))), (1, .one (.dat (.int .i64 kk))), (0, .one (.own 0))] [.vec 32 true R]) l.length _
  (Ent.wk [0]) ⟨0, l.map encTJob, k, by omega, by omega, ⟨by simp, rfl, hk0, rfl⟩, rfl⟩ ?_
 rintro zn zs ⟨i, R, kk, hi, rfl, ⟨hR1, hR2, hk1, hk2⟩, rfl⟩ K hK
 rcases Nat.lt_or_ge i l.length with hlt | hge
 ·have hd : decide ((i : Int) < ((l.length : Nat) : Int)) = true := decide_eq_true (by omega)
  have hw := ai hlt (show l.length <= maxLen by unfold maxLen; omega)
  have hqx := hq l[i] (List.getElem_mem hlt)
  rw [List.drop_eq_getElem_cons hlt] at hk2 hR2
  rw [List.map_cons] at hR2
  generalize l[i] = x at hk2 hR2 hqx
  obtain ⟨⟨q0, _⟩, q1, q2, q3, q4, q5, q6, _⟩ := hqx
  rw [dL] at hk2
  have hcx : cntTJob x = 25 + 3 * x.Batch.Cmds.length + 2 * x.Reads.length + 3 * x.Writes.length + 2 * x.Res.length + 1 * x.New.length + 1 * x.Held.length + 1 * x.Olds.length := rfl
  have hA : (R.take i).length = i := by rw [List.length_take]; omega
  have hR : R = R.take i ++ encTJob x :: (l.drop (i + 1)).map encTJob := by rw [<- hR2, List.take_append_drop]
  generalize hB : (l.drop (i + 1)).map encTJob = B at hR
  generalize R.take i = A at hA hR
  subst hR
  have hl1 : ∀ y, (A ++ y :: B).length = l.length := fun y => by rw [List.length_append, List.length_cons] at hR1 ⊢; exact hR1
  clear hR2
  obtain ⟨k1, hk1e⟩ : ∃ z, z = kk + 1 := ⟨_, rfl⟩
  have hw1 : IntKind.i64.wrap (kk + 1) = k1 := by rw [hk1e, IntKind.wrap_i64]; omega
  obtain ⟨k2, hk2e⟩ : ∃ z, z = k1 + 1 := ⟨_, rfl⟩
  have hw2 : IntKind.i64.wrap (k1 + 1) = k2 := by rw [hk2e, IntKind.wrap_i64]; omega
  obtain ⟨k3, hk3e⟩ : ∃ z, z = (k2 + 3 * (x.Batch.Cmds.length : Int)) + 1 := ⟨_, rfl⟩
  have hw3 : IntKind.i64.wrap ((k2 + 3 * (x.Batch.Cmds.length : Int)) + 1) = k3 := by rw [hk3e, IntKind.wrap_i64]; omega
  obtain ⟨k4, hk4e⟩ : ∃ z, z = k3 + 1 := ⟨_, rfl⟩
  have hw4 : IntKind.i64.wrap (k3 + 1) = k4 := by rw [hk4e, IntKind.wrap_i64]; omega
  obtain ⟨k5, hk5e⟩ : ∃ z, z = k4 + 1 := ⟨_, rfl⟩
  have hw5 : IntKind.i64.wrap (k4 + 1) = k5 := by rw [hk5e, IntKind.wrap_i64]; omega
  obtain ⟨k6, hk6e⟩ : ∃ z, z = k5 + 1 := ⟨_, rfl⟩
  have hw6 : IntKind.i64.wrap (k5 + 1) = k6 := by rw [hk6e, IntKind.wrap_i64]; omega
  obtain ⟨k7, hk7e⟩ : ∃ z, z = k6 + 1 := ⟨_, rfl⟩
  have hw7 : IntKind.i64.wrap (k6 + 1) = k7 := by rw [hk7e, IntKind.wrap_i64]; omega
  obtain ⟨k8, hk8e⟩ : ∃ z, z = k7 + 1 := ⟨_, rfl⟩
  have hw8 : IntKind.i64.wrap (k7 + 1) = k8 := by rw [hk8e, IntKind.wrap_i64]; omega
  obtain ⟨k9, hk9e⟩ : ∃ z, z = k8 + 1 := ⟨_, rfl⟩
  have hw9 : IntKind.i64.wrap (k8 + 1) = k9 := by rw [hk9e, IntKind.wrap_i64]; omega
  obtain ⟨k10, hk10e⟩ : ∃ z, z = k9 + 1 := ⟨_, rfl⟩
  have hw10 : IntKind.i64.wrap (k9 + 1) = k10 := by rw [hk10e, IntKind.wrap_i64]; omega
  obtain ⟨k11, hk11e⟩ : ∃ z, z = k10 + 1 := ⟨_, rfl⟩
  have hw11 : IntKind.i64.wrap (k10 + 1) = k11 := by rw [hk11e, IntKind.wrap_i64]; omega
  obtain ⟨k12, hk12e⟩ : ∃ z, z = k11 + 1 := ⟨_, rfl⟩
  have hw12 : IntKind.i64.wrap (k11 + 1) = k12 := by rw [hk12e, IntKind.wrap_i64]; omega
  obtain ⟨k13, hk13e⟩ : ∃ z, z = k12 + 1 := ⟨_, rfl⟩
  have hw13 : IntKind.i64.wrap (k12 + 1) = k13 := by rw [hk13e, IntKind.wrap_i64]; omega
  obtain ⟨k14, hk14e⟩ : ∃ z, z = k13 + 1 := ⟨_, rfl⟩
  have hw14 : IntKind.i64.wrap (k13 + 1) = k14 := by rw [hk14e, IntKind.wrap_i64]; omega
  obtain ⟨k15, hk15e⟩ : ∃ z, z = k14 + 1 := ⟨_, rfl⟩
  have hw15 : IntKind.i64.wrap (k14 + 1) = k15 := by rw [hk15e, IntKind.wrap_i64]; omega
  obtain ⟨k16, hk16e⟩ : ∃ z, z = k15 + 1 := ⟨_, rfl⟩
  have hw16 : IntKind.i64.wrap (k15 + 1) = k16 := by rw [hk16e, IntKind.wrap_i64]; omega
  obtain ⟨k17, hk17e⟩ : ∃ z, z = k16 + 1 := ⟨_, rfl⟩
  have hw17 : IntKind.i64.wrap (k16 + 1) = k17 := by rw [hk17e, IntKind.wrap_i64]; omega
  obtain ⟨k18, hk18e⟩ : ∃ z, z = k17 + 1 := ⟨_, rfl⟩
  have hw18 : IntKind.i64.wrap (k17 + 1) = k18 := by rw [hk18e, IntKind.wrap_i64]; omega
  obtain ⟨k19, hk19e⟩ : ∃ z, z = k18 + 1 := ⟨_, rfl⟩
  have hw19 : IntKind.i64.wrap (k18 + 1) = k19 := by rw [hk19e, IntKind.wrap_i64]; omega
  obtain ⟨k20, hk20e⟩ : ∃ z, z = k19 + 1 := ⟨_, rfl⟩
  have hw20 : IntKind.i64.wrap (k19 + 1) = k20 := by rw [hk20e, IntKind.wrap_i64]; omega
  obtain ⟨k21, hk21e⟩ : ∃ z, z = k20 + 1 := ⟨_, rfl⟩
  have hw21 : IntKind.i64.wrap (k20 + 1) = k21 := by rw [hk21e, IntKind.wrap_i64]; omega
  obtain ⟨k22, hk22e⟩ : ∃ z, z = k21 + 1 := ⟨_, rfl⟩
  have hw22 : IntKind.i64.wrap (k21 + 1) = k22 := by rw [hk22e, IntKind.wrap_i64]; omega
  obtain ⟨k23, hk23e⟩ : ∃ z, z = k22 + 1 := ⟨_, rfl⟩
  have hw23 : IntKind.i64.wrap (k22 + 1) = k23 := by rw [hk23e, IntKind.wrap_i64]; omega
  obtain ⟨k24, hk24e⟩ : ∃ z, z = k23 + 1 := ⟨_, rfl⟩
  have hw24 : IntKind.i64.wrap (k23 + 1) = k24 := by rw [hk24e, IntKind.wrap_i64]; omega
  obtain ⟨k25, hk25e⟩ : ∃ z, z = k24 + 1 := ⟨_, rfl⟩
  have hw25 : IntKind.i64.wrap (k24 + 1) = k25 := by rw [hk25e, IntKind.wrap_i64]; omega
  refine sv11 ?_
  refine scs ?_
  intro v0
  try (refine sv11 ?_)
  refine scs ?_
  refine ar [1] e99 (by simp [osOk, St.obj, find]) (lg x.Batch.Cmds (k2) (by omega) (by omega)) rfl ?_
  refine sv11 ?_
  refine scs ?_
  intro v1
  try (refine sv11 ?_)
  refine scs ?_
  refine ar [3] e104 (by simp [osOk, St.obj, find]) (o5 x.Reads (k25) (by omega) (by omega)) rfl ?_
  refine sv11 ?_
  refine scs ?_
  intro v2
  try (refine sv11 ?_)
  refine scs ?_
  refine ar [5] e105 (by simp [osOk, St.obj, find]) (o7 x.Writes ((k25 + 2 * (x.Reads.length : Int))) (by omega) (by omega)) rfl ?_
  refine sv11 ?_
  refine scs ?_
  intro v3
  try (refine sv11 ?_)
  refine scs ?_
  refine ar [7] e106 (by simp [osOk, St.obj, find]) (mn x.Res (((k25 + 2 * (x.Reads.length : Int)) + 3 * (x.Writes.length : Int))) (by omega) (by omega)) rfl ?_
  refine sv11 ?_
  refine scs ?_
  intro v4
  try (refine sv11 ?_)
  refine scs ?_
  refine ar [9] e103 (by simp [osOk, St.obj, find]) (gd x.New ((((k25 + 2 * (x.Reads.length : Int)) + 3 * (x.Writes.length : Int)) + 2 * (x.Res.length : Int))) (by omega) (by omega)) rfl ?_
  refine sv11 ?_
  refine scs ?_
  intro v5
  try (refine sv11 ?_)
  refine scs ?_
  refine ar [11] e103 (by simp [osOk, St.obj, find]) (gd x.Held (((((k25 + 2 * (x.Reads.length : Int)) + 3 * (x.Writes.length : Int)) + 2 * (x.Res.length : Int)) + 1 * (x.New.length : Int))) (by omega) (by omega)) rfl ?_
  refine sv11 ?_
  refine scs ?_
  intro v6
  try (refine sv11 ?_)
  refine scs ?_
  refine ar [13] e103 (by simp [osOk, St.obj, find]) (gd x.Olds ((((((k25 + 2 * (x.Reads.length : Int)) + 3 * (x.Writes.length : Int)) + 2 * (x.Res.length : Int)) + 1 * (x.New.length : Int)) + 1 * (x.Held.length : Int))) (by omega) (by omega)) rfl ?_
  refine sv11 ?_
  refine scs ?_
  apply hK
  refine ⟨l.length - (i + 1), _, by omega, Ent.wk [0] (h4 := bF (Nat.zero_lt_succ _) rfl), i + 1, _, ((((((k25 + 2 * (x.Reads.length : Int)) + 3 * (x.Writes.length : Int)) + 2 * (x.Res.length : Int)) + 1 * (x.New.length : Int)) + 1 * (x.Held.length : Int)) + 1 * (x.Olds.length : Int)), by omega, rfl, ⟨hl1 _, ?_, by omega, by omega⟩, rfl⟩
  rw [b8 hA, hB]
 ·have hge' : i = l.length := by omega
  subst hge'
  rw [List.drop_length] at hk2
  have hkk : kk = k + (cntTJobS l : Int) := by rw [<- hk2]; simp [cntTJobS]
  have hd : decide (((l.length : Nat) : Int) < ((l.length : Nat) : Int)) = false := by simp
  refine sv7 ?_
  apply hK
  refine evl ?_
  rw [hkk]
  refine Fin.nt results40 [0] ?_ ?_ ?_ <;> try trivial
  all_goals exact entd
theorem pB (l : List TEv) (hl : l.length <= 1048576) (hq : ∀ x ∈ l, x.sok) (k : Int) (hk0 : 0 <= k) (hk : k + (cntTEvS l : Int) <= 4611686018427387904) : Ctr prog 41 [.one (.own 0), .one (.dat (.int .i64 k))] [.vec 6 true (l.map encTEv)] (.one (.dat (.int .i64 (k + (cntTEvS l : Int))))) [.dead] := by
 refine Ctr.bg aa func41 rfl ?_
 refine evl ?_
 refine ab (fun zn zs => ∃ (i : Nat) (R : List (List D)) (kk : Int), i <= l.length /\ zn = l.length - i /\ (R.length = l.length /\ R.drop i = (l.drop i).map encTEv /\ 0 <= kk /\ kk + (cntTEvS (l.drop i) : Int) = k + (cntTEvS l : Int)) /\ zs = mkSt [(5, .one (.dat (.int .i64 i))), (1, .one (.dat (.int .i64 kk))), (0, .one (.own 0))] [.vec 6 true R]) l.length _
  (Ent.wk [0]) ⟨0, l.map encTEv, k, by omega, by omega, ⟨by simp, rfl, hk0, rfl⟩, rfl⟩ ?_
 rintro zn zs ⟨i, R, kk, hi, rfl, ⟨hR1, hR2, hk1, hk2⟩, rfl⟩ K hK
 rcases Nat.lt_or_ge i l.length with hlt | hge
 ·have hd : decide ((i : Int) < ((l.length : Nat) : Int)) = true := decide_eq_true (by omega)
  have hw := ai hlt (show l.length <= maxLen by unfold maxLen; omega)
  have hqx := hq l[i] (List.getElem_mem hlt)
  rw [List.drop_eq_getElem_cons hlt] at hk2 hR2
  rw [List.map_cons] at hR2
  generalize l[i] = x at hk2 hR2 hqx
  obtain ⟨q0, q1, _⟩ := hqx
  rw [em] at hk2
  have hcx : cntTEv x = 4 + 3 * x.Cmds.length + 2 * x.Res.length := rfl
  have hA : (R.take i).length = i := by rw [List.length_take]; omega
  have hR : R = R.take i ++ encTEv x :: (l.drop (i + 1)).map encTEv := by rw [<- hR2, List.take_append_drop]
  generalize hB : (l.drop (i + 1)).map encTEv = B at hR
  generalize R.take i = A at hA hR
  subst hR
  have hl1 : ∀ y, (A ++ y :: B).length = l.length := fun y => by rw [List.length_append, List.length_cons] at hR1 ⊢; exact hR1
  clear hR2
  obtain ⟨k1, hk1e⟩ : ∃ z, z = kk + 1 := ⟨_, rfl⟩
  have hw1 : IntKind.i64.wrap (kk + 1) = k1 := by rw [hk1e, IntKind.wrap_i64]; omega
  obtain ⟨k2, hk2e⟩ : ∃ z, z = k1 + 1 := ⟨_, rfl⟩
  have hw2 : IntKind.i64.wrap (k1 + 1) = k2 := by rw [hk2e, IntKind.wrap_i64]; omega
  obtain ⟨k3, hk3e⟩ : ∃ z, z = k2 + 1 := ⟨_, rfl⟩
  have hw3 : IntKind.i64.wrap (k2 + 1) = k3 := by rw [hk3e, IntKind.wrap_i64]; omega
  obtain ⟨k4, hk4e⟩ : ∃ z, z = k3 + 1 := ⟨_, rfl⟩
  have hw4 : IntKind.i64.wrap (k3 + 1) = k4 := by rw [hk4e, IntKind.wrap_i64]; omega
  refine sv12 ?_
  refine scs ?_
  intro v0
  try (refine sv12 ?_)
  refine scs ?_
  refine ar [1] e99 (by simp [osOk, St.obj, find]) (lg x.Cmds (k4) (by omega) (by omega)) rfl ?_
  refine sv12 ?_
  refine scs ?_
  intro v1
  try (refine sv12 ?_)
  refine scs ?_
  refine ar [3] e106 (by simp [osOk, St.obj, find]) (mn x.Res ((k4 + 3 * (x.Cmds.length : Int))) (by omega) (by omega)) rfl ?_
  refine sv12 ?_
  refine scs ?_
  apply hK
  refine ⟨l.length - (i + 1), _, by omega, Ent.wk [0] (h4 := bF (Nat.zero_lt_succ _) rfl), i + 1, _, ((k4 + 3 * (x.Cmds.length : Int)) + 2 * (x.Res.length : Int)), by omega, rfl, ⟨hl1 _, ?_, by omega, by omega⟩, rfl⟩
  rw [b8 hA, hB]
 ·have hge' : i = l.length := by omega
  subst hge'
  rw [List.drop_length] at hk2
  have hkk : kk = k + (cntTEvS l : Int) := by rw [<- hk2]; simp [cntTEvS]
  have hd : decide (((l.length : Nat) : Int) < ((l.length : Nat) : Int)) = false := by simp
  refine sv7 ?_
  apply hK
  refine evl ?_
  rw [hkk]
  refine Fin.nt results41 [0] ?_ ?_ ?_ <;> try trivial
  all_goals exact entd
theorem c13 (x : Table) (hx : x.sok) (k : Int) (hk0 : 0 <= k) (hk : k + (mcTable x : Int) <= 4611686018427387904) : Ctr prog 13 [.agg [.own 0, .own 1, .own 2, .own 3, .dat (.int .i64 x.Base.Clock.Epoch), .own 4, .own 5, .own 6, .own 7, .own 8, .own 9, .own 10, .dat (.int .i64 x.Serial)], .one (.dat (.int .i64 k))] [.vec 1 true (x.Base.Mem.Heap.Bytes.map encI), .vec 1 true (x.Base.Mem.Heap.Class.map encI), .vec 1 true (x.Base.Mem.Lists.Global.map encSList), .vec 1 true (x.Base.Mem.Lists.Own.map encSList), .vec 4 true (x.Base.Clock.Pins.map encPin), .vec 1 true (x.Base.Limbo.map encLList), .vec 1 true (x.Base.Haz.map encI), .vec 3 true (x.Bkts.map encBkt), .vec 32 true (x.Jobs.map encTJob), .vec 1 true (x.Todo.map encTQueue), .vec 6 true (x.Log.map encTEv)] (.one (.dat (.int .i64 (k + (mcTable x : Int))))) [.dead, .dead, .dead, .dead, .dead, .dead, .dead, .dead, .dead, .dead, .dead] := by
 have hmc : mcTable x = mcBase x.Base + 3 * x.Bkts.length + cntTJobS x.Jobs + cntTQueueS x.Todo + cntTEvS x.Log := rfl
 obtain ⟨q0, q1, q2, q3, q4, q5, q6, q7, _⟩ := hx
 refine Ctr.bg aa func13 rfl ?_
 refine evl ?_
 refine scs ?_
 refine ar [0, 1, 2, 3, 4, 5, 6] e38 (by simp [osOk, St.obj, find]) (c38 x.Base q0 (k) (by omega) (by omega)) rfl ?_
 refine evl ?_
 refine scs ?_
 refine ar [7] e39 (by simp [osOk, St.obj, find]) (nw x.Bkts ((k + (mcBase x.Base : Int))) (by omega) (by omega)) rfl ?_
 refine evl ?_
 refine scs ?_
 refine ar [8] e40 (by simp [osOk, St.obj, find]) (pA x.Jobs q2 q3 (((k + (mcBase x.Base : Int)) + 3 * (x.Bkts.length : Int))) (by omega) (by omega)) rfl ?_
 refine evl ?_
 refine scs ?_
 refine ar [9] e12 (by simp [osOk, St.obj, find]) (pz x.Todo q4 q5 ((((k + (mcBase x.Base : Int)) + 3 * (x.Bkts.length : Int)) + (cntTJobS x.Jobs : Int))) (by omega) (by omega)) rfl ?_
 refine evl ?_
 refine scs ?_
 refine ar [10] e41 (by simp [osOk, St.obj, find]) (pB x.Log q6 q7 (((((k + (mcBase x.Base : Int)) + 3 * (x.Bkts.length : Int)) + (cntTJobS x.Jobs : Int)) + (cntTQueueS x.Todo : Int))) (by omega) (by omega)) rfl ?_
 refine evl ?_
 rw [show (((((k + (mcBase x.Base : Int)) + 3 * (x.Bkts.length : Int)) + (cntTJobS x.Jobs : Int)) + (cntTQueueS x.Todo : Int)) + (cntTEvS x.Log : Int)) = k + (mcTable x : Int) by omega]
 refine Fin.nt results13 [0, 1, 2, 3, 4, 5, 6, 7, 8, 9, 10] ?_ ?_ ?_ <;> try trivial
 all_goals exact entd
end Go.Proofs.YtkmmgklnoagedaaGreat.Mod
