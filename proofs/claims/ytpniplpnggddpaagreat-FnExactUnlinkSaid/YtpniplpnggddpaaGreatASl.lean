/- Contracts: Sl. -/
import Derived.Test.YtpniplpnggddpaaGreatRows
import Derived.Test.YtpniplpnggddpaaGreatATy
import Derived.Test.YtpniplpnggddpaaGreatAbsTac
import Derived.Test.YtpniplpnggddpaaGreatAbsData
import Derived.Test.YtpniplpnggddpaaGreatAFam
import Derived.WalkKit
import Derived.ProofKit
import Derived.OpenShut
namespace Go.Proofs.YtpniplpnggddpaaGreat.Mod
open Go.Proofs.Tryz Go.Abs Go.Proofs.YtpniplpnggddpaaGreat.Ty Go.ChangeShapes Go.WideShapes Go.ChangeAt Go.RowKit
set_option linter.unusedSimpArgs false
set_option linter.unusedVariables false
set_option maxHeartbeats 8000000
set_option maxRecDepth 100000
def ixF {α : Type} (p : α -> Bool) (l : List α) : Int := match l.findIdx? p with
 | some i => i
 | none => -1
theorem ixF_none {α : Type} {p : α -> Bool} {l : List α} (h : ∀ j (hj : j < l.length), p l[j] = false) : ixF p l = -1 := by
 unfold ixF
 have : l.findIdx? p = none := by
  rw [List.findIdx?_eq_none_iff]
  intro x hx
  obtain ⟨j, hj, rfl⟩ := List.getElem_of_mem hx
  exact h j hj
 rw [this]
theorem ixF_some {α : Type} {p : α -> Bool} {l : List α} {i : Nat} (hi : i < l.length) (hp : p l[i] = true) (h : ∀ j (hj : j < l.length), j < i -> p l[j] = false) : ixF p l = i := by
 unfold ixF
 have : l.findIdx? p = some i := by
  rw [List.findIdx?_eq_some_iff_getElem]
  refine ⟨hi, hp, fun j hj => ?_⟩
  have := h j (by omega) hj
  simp [this]
 rw [this]
theorem ixF_cases {α : Type} (p : α -> Bool) (l : List α) : (ixF p l = -1 /\ ∀ j (hj : j < l.length), p l[j] = false) \/ ∃ i, ∃ hi : i < l.length, ixF p l = i /\ p l[i] = true /\ ∀ j (hj : j < l.length), j < i -> p l[j] = false := by
 unfold ixF
 cases e : l.findIdx? p with
 | none =>
  rw [List.findIdx?_eq_none_iff] at e
  exact .inl ⟨rfl, fun j hj => e _ (List.getElem_mem hj)⟩
 | some i =>
  rw [List.findIdx?_eq_some_iff_getElem] at e
  obtain ⟨hi, hp, h⟩ := e
  exact .inr ⟨i, hi, rfl, hp, fun j hj hji => by have := h j hji; simpa using this⟩
def firstF {α : Type} (p : α -> Bool) (z : α) (l : List α) : α × Bool := match l.find? p with
 | some x => (x, true)
 | none => (z, false)
theorem firstF_none {α : Type} {p : α -> Bool} {z : α} {l : List α} (h : ∀ j (hj : j < l.length), p l[j] = false) : firstF p z l = (z, false) := by
 unfold firstF
 have : l.find? p = none := by
  rw [List.find?_eq_none]
  intro x hx
  obtain ⟨j, hj, rfl⟩ := List.getElem_of_mem hx
  simp [h j hj]
 rw [this]
theorem firstF_some {α : Type} {p : α -> Bool} {z : α} {l : List α} {i : Nat} (hi : i < l.length) (hp : p l[i] = true) (h : ∀ j (hj : j < l.length), j < i -> p l[j] = false) : firstF p z l = (l[i], true) := by
 unfold firstF
 have : l.find? p = some l[i] := by
  rw [List.find?_eq_some_iff_getElem]
  refine ⟨hp, i, hi, rfl, fun j hj => ?_⟩
  simp [h j (by omega) hj]
 rw [this]
end Go.Proofs.YtpniplpnggddpaaGreat.Mod
