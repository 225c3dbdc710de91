/- Contracts: Fam2. -/
import Derived.Test.YtmgemgeeoconbaaDoorRows
import Derived.Test.YtmgemgeeoconbaaDoorATy
import Derived.Test.YtmgemgeeoconbaaDoorAbsTac
import Derived.Test.YtmgemgeeoconbaaDoorAbsData
import Derived.Test.YtmgemgeeoconbaaDoorAFam
import Derived.WalkKit
import Derived.ProofKit
import Derived.OpenShut
namespace Go.Proofs.YtmgemgeeoconbaaDoor.Mod
open Go.Proofs.Tryd Go.Abs Go.Proofs.YtmgemgeeoconbaaDoor.Ty Go.ChangeShapes Go.WideShapes Go.ChangeAt Go.RowKit
set_option linter.unusedSimpArgs false
set_option linter.unusedVariables false
set_option maxHeartbeats 8000000
set_option maxRecDepth 100000
def encI (x : Int) : List D := [.int .i64 x]
theorem sum_get {α : Type} (f : α -> Nat) : ∀ {l : List α} {i : Nat} (h : i < l.length), f l[i] <= (l.map f).sum
 | x :: l, 0, _ => by simp
 | x :: l, i + 1, h => by
  have := sum_get f (l := l) (i := i) (by simpa using h)
  simp; omega
theorem sum_mem {α : Type} (f : α -> Nat) {l : List α} {x : α} (h : x ∈ l) : f x <= (l.map f).sum := by
 obtain ⟨i, hi, rfl⟩ := List.getElem_of_mem h
 exact sum_get f hi
theorem sum_take_succ {α : Type} (f : α -> Nat) {l : List α} {i : Nat} (h : i < l.length) : ((l.take (i + 1)).map f).sum = ((l.take i).map f).sum + f l[i] := by
 rw [List.take_succ_eq_append_getElem h, List.map_append, List.sum_append]; simp
theorem sum_take_le {α : Type} (f : α -> Nat) (l : List α) (i : Nat) : ((l.take i).map f).sum <= (l.map f).sum := by
 conv => rhs; rw [<- List.take_append_drop i l, List.map_append, List.sum_append]
 omega
end Go.Proofs.YtmgemgeeoconbaaDoor.Mod
