/- Contracts: Fam3. -/
import Derived.Test.YtcnddedeeplbcaaGreatRows
import Derived.Test.YtcnddedeeplbcaaGreatCTy
import Derived.Test.YtcnddedeeplbcaaGreatAbsTac
import Derived.Test.YtcnddedeeplbcaaGreatAbsData
import Derived.Test.YtcnddedeeplbcaaGreatCFam2
import Derived.WalkKit
import Derived.ProofKit
import Derived.OpenShut
namespace Go.Proofs.YtcnddedeeplbcaaGreat.Mod
open Go.Proofs.Tryz Go.Abs Go.Proofs.YtcnddedeeplbcaaGreat.Ty Go.ChangeShapes Go.WideShapes Go.ChangeAt Go.RowKit
set_option linter.unusedSimpArgs false
set_option linter.unusedVariables false
set_option maxHeartbeats 8000000
set_option maxRecDepth 100000
def Heap.sok (x:Heap):Prop:=x.Bytes.length <= 1048576 /\ x.Class.length <= 1048576 /\ True
theorem Heap.sok_of {x:Heap} (h:sizHeap x <= 1048576):x.sok:=by
 unfold sizHeap at h
 exact ⟨by omega,by omega,trivial⟩
def SList.sok (x:SList):Prop:=x.Slots.length <= 1048576 /\ True
theorem SList.sok_of {x:SList} (h:sizSList x <= 1048576):x.sok:=by
 unfold sizSList at h
 exact ⟨by omega,trivial⟩
def Lists.sok (x:Lists):Prop:=x.Global.length <= 1048576 /\ (∀ y ∈ x.Global,y.sok) /\ x.Own.length <= 1048576 /\ (∀ y ∈ x.Own,y.sok) /\ True
theorem Lists.sok_of {x:Lists} (h:sizLists x <= 1048576):x.sok:=by
 unfold sizLists at h
 unfold sizSListS at h
 exact ⟨by omega,fun y hy=>SList.sok_of (by have:=sum_mem sizSList hy;omega),by omega,fun y hy=>SList.sok_of (by have:=sum_mem sizSList hy;omega),trivial⟩
def Mem.sok (x:Mem):Prop:=x.Heap.sok /\ x.Lists.sok /\ True
theorem Mem.sok_of {x:Mem} (h:sizMem x <= 1048576):x.sok:=by
 unfold sizMem at h
 exact ⟨Heap.sok_of (by omega),Lists.sok_of (by omega),trivial⟩
end Go.Proofs.YtcnddedeeplbcaaGreat.Mod
