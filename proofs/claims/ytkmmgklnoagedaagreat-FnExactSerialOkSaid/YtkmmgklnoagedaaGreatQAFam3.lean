import Derived.Test.YtkmmgklnoagedaaGreatRows
import Derived.Test.YtkmmgklnoagedaaGreatQATy
import Derived.Test.YtkmmgklnoagedaaGreatQAbsTac
import Derived.Test.YtkmmgklnoagedaaGreatQAbsData
import Derived.Test.YtkmmgklnoagedaaGreatQAFam2
import Derived.WalkKit
import Derived.ProofKit
import Derived.OpenShut
/- Contracts: Fam3. -/
namespace Go.Proofs.YtkmmgklnoagedaaGreat.Mod
open Go.Proofs.Tryz Go.Abs Go.Proofs.YtkmmgklnoagedaaGreat.Ty Go.ChangeShapes Go.WideShapes Go.ChangeAt Go.RowKit
set_option linter.unusedSimpArgs false
set_option linter.unusedVariables false
set_option maxHeartbeats 8000000
set_option maxRecDepth 100000
def Heap.sok (x : Heap) : Prop := x.Bytes.length <= 1048576 /\ x.Class.length <= 1048576 /\ True
def SList.sok (x : SList) : Prop := x.Slots.length <= 1048576 /\ True
def Lists.sok (x : Lists) : Prop := x.Global.length <= 1048576 /\ (∀ y ∈ x.Global, y.sok) /\ x.Own.length <= 1048576 /\ (∀ y ∈ x.Own, y.sok) /\ True
def Mem.sok (x : Mem) : Prop := x.Heap.sok /\ x.Lists.sok /\ True
def Clock.sok (x : Clock) : Prop := x.Pins.length <= 1048576 /\ True
def LList.sok (x : LList) : Prop := x.Rows.length <= 1048576 /\ True
def Base.sok (x : Base) : Prop := x.Mem.sok /\ x.Clock.sok /\ x.Limbo.length <= 1048576 /\ (∀ y ∈ x.Limbo, y.sok) /\ x.Haz.length <= 1048576 /\ True
def Batch.sok (x : Batch) : Prop := x.Cmds.length <= 1048576 /\ True
theorem Batch.sok_of {x : Batch} (h : sizBatch x <= 1048576) : x.sok := by
 unfold sizBatch at h
 exact ⟨by omega, trivial⟩
def TQueue.sok (x : TQueue) : Prop := x.List.length <= 1048576 /\ (∀ y ∈ x.List, y.sok) /\ True
def TJob.sok (x : TJob) : Prop := x.Batch.sok /\ x.Reads.length <= 1048576 /\ x.Writes.length <= 1048576 /\ x.Res.length <= 1048576 /\ x.New.length <= 1048576 /\ x.Held.length <= 1048576 /\ x.Olds.length <= 1048576 /\ True
theorem TJob.sok_of {x : TJob} (h : sizTJob x <= 1048576) : x.sok := by
 unfold sizTJob at h
 exact ⟨Batch.sok_of (by omega), by omega, by omega, by omega, by omega, by omega, by omega, trivial⟩
def TEv.sok (x : TEv) : Prop := x.Cmds.length <= 1048576 /\ x.Res.length <= 1048576 /\ True
def Table.sok (x : Table) : Prop := x.Base.sok /\ x.Bkts.length <= 1048576 /\ x.Jobs.length <= 1048576 /\ (∀ y ∈ x.Jobs, y.sok) /\ x.Todo.length <= 1048576 /\ (∀ y ∈ x.Todo, y.sok) /\ x.Log.length <= 1048576 /\ (∀ y ∈ x.Log, y.sok) /\ True
end Go.Proofs.YtkmmgklnoagedaaGreat.Mod
