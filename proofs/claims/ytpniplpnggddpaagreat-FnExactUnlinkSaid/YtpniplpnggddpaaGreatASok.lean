/- Contracts: Sok. -/
import Derived.Test.YtpniplpnggddpaaGreatRows
import Derived.Test.YtpniplpnggddpaaGreatATy
import Derived.Test.YtpniplpnggddpaaGreatAbsTac
import Derived.Test.YtpniplpnggddpaaGreatAbsData
import Derived.Test.YtpniplpnggddpaaGreatAFam2
import Derived.WalkKit
import Derived.ProofKit
import Derived.OpenShut
namespace Go.Proofs.YtpniplpnggddpaaGreat.Mod
open Go.Proofs.Tryz Go.Abs Go.Proofs.YtpniplpnggddpaaGreat.Ty Go.ChangeShapes Go.WideShapes Go.ChangeAt Go.RowKit
set_option linter.unusedSimpArgs false
set_option linter.unusedVariables false
set_option maxHeartbeats 8000000
set_option maxRecDepth 100000
def markInts (k : Int) (n : Nat) : List (List D) := (List.range n).map fun i => encI (k + 1 * (i : Nat))
theorem drop_mid {α : Type} {A B : List α} {i : Nat} {x : α} (h : A.length = i) : (A ++ x :: B).drop (i + 1) = B := by
 subst h; rw [List.drop_append]; simp
def Heap.sok (x : Heap) : Prop := x.Bytes.length <= 1048576 /\ x.Class.length <= 1048576 /\ True
theorem Heap.sok_of {x : Heap} (h : sizHeap x <= 1048576) : x.sok := by
 unfold sizHeap at h
 exact ⟨by omega, by omega, trivial⟩
def mcHeap (x : Heap) : Nat := 1 * x.Bytes.length + 1 * x.Class.length
theorem mcHeap_le (x : Heap) : mcHeap x <= 32 * sizHeap x := by
 unfold mcHeap sizHeap
 omega
def SList.sok (x : SList) : Prop := x.Slots.length <= 1048576 /\ True
theorem SList.sok_of {x : SList} (h : sizSList x <= 1048576) : x.sok := by
 unfold sizSList at h
 exact ⟨by omega, trivial⟩
def cntSList (x : SList) : Nat := 1 * x.Slots.length
def cntSListS (l : List SList) : Nat := (l.map cntSList).sum
theorem cntSListS_cons (x : SList) (l : List SList) : cntSListS (x :: l) = cntSList x + cntSListS l := by simp [cntSListS]
theorem cntSList_le (x : SList) : cntSList x <= 32 * (1 + sizSList x) := by
 unfold cntSList sizSList
 omega
theorem cntSListS_le (l : List SList) : cntSListS l <= 32 * sizSListS l := by
 unfold sizSListS
 induction l with
 | nil => simp [cntSListS]
 | cons x l ih =>
  have := cntSList_le x
  rw [cntSListS_cons, List.length_cons, List.map_cons, List.sum_cons]
  omega
def Lists.sok (x : Lists) : Prop := x.Global.length <= 1048576 /\ (∀ y ∈ x.Global, y.sok) /\ x.Own.length <= 1048576 /\ (∀ y ∈ x.Own, y.sok) /\ True
theorem Lists.sok_of {x : Lists} (h : sizLists x <= 1048576) : x.sok := by
 unfold sizLists at h
 unfold sizSListS at h
 exact ⟨by omega, fun y hy => SList.sok_of (by have := sum_mem sizSList hy; omega), by omega, fun y hy => SList.sok_of (by have := sum_mem sizSList hy; omega), trivial⟩
def mcLists (x : Lists) : Nat := cntSListS x.Global + cntSListS x.Own
theorem mcLists_le (x : Lists) : mcLists x <= 32 * sizLists x := by
 have := cntSListS_le x.Global
 have := cntSListS_le x.Own
 unfold mcLists sizLists
 omega
def Mem.sok (x : Mem) : Prop := x.Heap.sok /\ x.Lists.sok /\ True
theorem Mem.sok_of {x : Mem} (h : sizMem x <= 1048576) : x.sok := by
 unfold sizMem at h
 exact ⟨Heap.sok_of (by omega), Lists.sok_of (by omega), trivial⟩
def mcMem (x : Mem) : Nat := mcHeap x.Heap + mcLists x.Lists
theorem mcMem_le (x : Mem) : mcMem x <= 32 * sizMem x := by
 have := mcHeap_le x.Heap
 have := mcLists_le x.Lists
 unfold mcMem sizMem
 omega
end Go.Proofs.YtpniplpnggddpaaGreat.Mod
