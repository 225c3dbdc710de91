/- Contracts: Fam2. -/
import Derived.Test.YtcnddedeeplbcaaGreatRows
import Derived.Test.YtcnddedeeplbcaaGreatCTy
import Derived.Test.YtcnddedeeplbcaaGreatAbsTac
import Derived.Test.YtcnddedeeplbcaaGreatAbsData
import Derived.Test.YtcnddedeeplbcaaGreatCFam
import Derived.WalkKit
import Derived.ProofKit
import Derived.OpenShut
namespace Go.Proofs.YtcnddedeeplbcaaGreat.Mod
open Go.Proofs.Tryz Go.Abs Go.Proofs.YtcnddedeeplbcaaGreat.Ty Go.ChangeShapes Go.WideShapes Go.ChangeAt Go.RowKit
set_option linter.unusedSimpArgs false
set_option linter.unusedVariables false
set_option maxHeartbeats 8000000
set_option maxRecDepth 100000
def encI (x:Int):List D:=[.int .i64 x]
theorem sum_get {α:Type} (f:α -> Nat):∀ {l:List α} {i:Nat} (h:i < l.length),f l[i] <= (l.map f).sum
 | x :: l,0,_=>by simp
 | x :: l,i + 1,h=>by
  have:=sum_get f (l:=l) (i:=i) (by simpa using h)
  simp;omega
theorem sum_mem {α:Type} (f:α -> Nat) {l:List α} {x:α} (h:x ∈ l):f x <= (l.map f).sum:=by
 obtain ⟨i,hi,rfl⟩:=List.getElem_of_mem h
 exact sum_get f hi
theorem sum_take_succ {α:Type} (f:α -> Nat) {l:List α} {i:Nat} (h:i < l.length):((l.take (i + 1)).map f).sum=((l.take i).map f).sum + f l[i]:=by
 rw [List.take_succ_eq_append_getElem h,List.map_append,List.sum_append];simp
theorem sum_take_le {α:Type} (f:α -> Nat) (l:List α) (i:Nat):((l.take i).map f).sum <= (l.map f).sum:=by
 conv=>rhs;rw [<- List.take_append_drop i l,List.map_append,List.sum_append]
 omega
structure Heap where
 Bytes:List Int
 Class:List Int
 deriving DecidableEq
def encHeap (x:Heap):List D:=[.sl 1 (x.Bytes.map encI),.sl 1 (x.Class.map encI)]
def Heap.wf (x:Heap):Prop:=(∀ y ∈ x.Bytes,(Lit.int .i64 y).wf=true) /\ (∀ y ∈ x.Class,(Lit.int .i64 y).wf=true) /\ True
theorem Heap.eq_iff (x y:Heap):x=y ↔ x.Bytes=y.Bytes /\ x.Class=y.Class:=by cases x;cases y;simp
def Heap.lok (x:Heap):Prop:=x.Bytes.length <= maxLen /\ x.Class.length <= maxLen /\ True
def sizHeap (x:Heap):Nat:=x.Bytes.length + x.Class.length
def sizHeapS (l:List Heap):Nat:=l.length + (l.map sizHeap).sum
def zeroHeap:Heap:=⟨[],[]⟩
theorem Heap.lok_of {x:Heap} (h:sizHeap x <= 16777216):x.lok:=by
 have hm:maxLen=9223372036854775807:=rfl
 unfold sizHeap at h
 exact ⟨by omega,by omega,trivial⟩
theorem lokHeapS {l:List Heap} (h:sizHeapS l <= 16777216):l.length <= maxLen /\ ∀ y ∈ l,y.lok:=by
 have hm:maxLen=9223372036854775807:=rfl
 unfold sizHeapS at h
 exact ⟨by omega,fun y hy=>Heap.lok_of (by have:=sum_mem sizHeap hy;omega)⟩
structure SList where
 Slots:List Int
 deriving DecidableEq
def encSList (x:SList):List D:=[.sl 1 (x.Slots.map encI)]
def SList.wf (x:SList):Prop:=(∀ y ∈ x.Slots,(Lit.int .i64 y).wf=true) /\ True
theorem SList.eq_iff (x y:SList):x=y ↔ x.Slots=y.Slots:=by cases x;cases y;simp
def SList.lok (x:SList):Prop:=x.Slots.length <= maxLen /\ True
def sizSList (x:SList):Nat:=x.Slots.length
def sizSListS (l:List SList):Nat:=l.length + (l.map sizSList).sum
def zeroSList:SList:=⟨[]⟩
theorem SList.lok_of {x:SList} (h:sizSList x <= 16777216):x.lok:=by
 have hm:maxLen=9223372036854775807:=rfl
 unfold sizSList at h
 exact ⟨by omega,trivial⟩
theorem lokSListS {l:List SList} (h:sizSListS l <= 16777216):l.length <= maxLen /\ ∀ y ∈ l,y.lok:=by
 have hm:maxLen=9223372036854775807:=rfl
 unfold sizSListS at h
 exact ⟨by omega,fun y hy=>SList.lok_of (by have:=sum_mem sizSList hy;omega)⟩
structure Lists where
 Global:List SList
 Own:List SList
 deriving DecidableEq
def encLists (x:Lists):List D:=[.sl 1 (x.Global.map encSList),.sl 1 (x.Own.map encSList)]
def Lists.wf (x:Lists):Prop:=(∀ y ∈ x.Global,y.wf) /\ (∀ y ∈ x.Own,y.wf) /\ True
theorem Lists.eq_iff (x y:Lists):x=y ↔ x.Global=y.Global /\ x.Own=y.Own:=by cases x;cases y;simp
def Lists.lok (x:Lists):Prop:=x.Global.length <= maxLen /\ (∀ y ∈ x.Global,y.lok) /\ x.Own.length <= maxLen /\ (∀ y ∈ x.Own,y.lok) /\ True
def sizLists (x:Lists):Nat:=sizSListS x.Global + sizSListS x.Own
def sizListsS (l:List Lists):Nat:=l.length + (l.map sizLists).sum
def zeroLists:Lists:=⟨[],[]⟩
theorem Lists.lok_of {x:Lists} (h:sizLists x <= 16777216):x.lok:=by
 have hm:maxLen=9223372036854775807:=rfl
 unfold sizLists at h
 unfold sizSListS at h
 exact ⟨by omega,fun y hy=>SList.lok_of (by have:=sum_mem sizSList hy;omega),by omega,fun y hy=>SList.lok_of (by have:=sum_mem sizSList hy;omega),trivial⟩
theorem lokListsS {l:List Lists} (h:sizListsS l <= 16777216):l.length <= maxLen /\ ∀ y ∈ l,y.lok:=by
 have hm:maxLen=9223372036854775807:=rfl
 unfold sizListsS at h
 exact ⟨by omega,fun y hy=>Lists.lok_of (by have:=sum_mem sizLists hy;omega)⟩
structure Mem where
 Heap:Heap
 Lists:Lists
 deriving DecidableEq
def encMem (x:Mem):List D:=[.sl 1 (x.Heap.Bytes.map encI),.sl 1 (x.Heap.Class.map encI),.sl 1 (x.Lists.Global.map encSList),.sl 1 (x.Lists.Own.map encSList)]
def Mem.wf (x:Mem):Prop:=x.Heap.wf /\ x.Lists.wf /\ True
theorem Mem.eq_iff (x y:Mem):x=y ↔ x.Heap=y.Heap /\ x.Lists=y.Lists:=by cases x;cases y;simp
def Mem.lok (x:Mem):Prop:=x.Heap.lok /\ x.Lists.lok /\ True
def sizMem (x:Mem):Nat:=sizHeap x.Heap + sizLists x.Lists
def sizMemS (l:List Mem):Nat:=l.length + (l.map sizMem).sum
def zeroMem:Mem:=⟨zeroHeap,zeroLists⟩
end Go.Proofs.YtcnddedeeplbcaaGreat.Mod
