/- Contracts: Sl. -/
import Derived.Test.YtebinioiggfplaaGreatRows
import Derived.Test.YtebinioiggfplaaGreatBTy
import Derived.Test.YtebinioiggfplaaGreatAbsTac
import Derived.Test.YtebinioiggfplaaGreatAbsData
import Derived.Test.YtebinioiggfplaaGreatBFam
import Derived.WalkKit
import Derived.ProofKit
import Derived.OpenShut
namespace Go.Proofs.YtebinioiggfplaaGreat.Mod
open Go.Proofs.Tryz Go.Abs Go.Proofs.YtebinioiggfplaaGreat.Ty Go.ChangeShapes Go.WideShapes Go.ChangeAt Go.RowKit
set_option linter.unusedSimpArgs false
set_option linter.unusedVariables false
set_option maxHeartbeats 8000000
set_option maxRecDepth 100000
def ixF {α : Type} (p : α -> Bool) (l : List α) : Int := match l.findIdx? p with
 | some i => i
 | none => -1
theorem ixF_none {α : Type} {p : α -> Bool} {l : List α} (h : ∀ j (hj : j < l.length), p l[j] = false) : ixF p l = -1 := by
 unfold ixF
 have : l.findIdx? p = none := by
  rw [List.findIdx?_eq_none_iff]
  intro x hx
  obtain ⟨j, hj, rfl⟩ := List.getElem_of_mem hx
  exact h j hj
 rw [this]
theorem ixF_some {α : Type} {p : α -> Bool} {l : List α} {i : Nat} (hi : i < l.length) (hp : p l[i] = true) (h : ∀ j (hj : j < l.length), j < i -> p l[j] = false) : ixF p l = i := by
 unfold ixF
 have : l.findIdx? p = some i := by
  rw [List.findIdx?_eq_some_iff_getElem]
  refine ⟨hi, hp, fun j hj => ?_⟩
  have := h j (by omega) hj
  simp [this]
 rw [this]
theorem ixF_cases {α : Type} (p : α -> Bool) (l : List α) : (ixF p l = -1 /\ ∀ j (hj : j < l.length), p l[j] = false) \/ ∃ i, ∃ hi : i < l.length, ixF p l = i /\ p l[i] = true /\ ∀ j (hj : j < l.length), j < i -> p l[j] = false := by
 unfold ixF
 cases e : l.findIdx? p with
 | none =>
  rw [List.findIdx?_eq_none_iff] at e
  exact .inl ⟨rfl, fun j hj => e _ (List.getElem_mem hj)⟩
 | some i =>
  rw [List.findIdx?_eq_some_iff_getElem] at e
  obtain ⟨hi, hp, h⟩ := e
  exact .inr ⟨i, hi, rfl, hp, fun j hj hji => by have := h j hji; simpa using this⟩
def firstF {α : Type} (p : α -> Bool) (z : α) (l : List α) : α × Bool := match l.find? p with
 | some x => (x, true)
 | none => (z, false)
theorem firstF_none {α : Type} {p : α -> Bool} {z : α} {l : List α} (h : ∀ j (hj : j < l.length), p l[j] = false) : firstF p z l = (z, false) := by
 unfold firstF
 have : l.find? p = none := by
  rw [List.find?_eq_none]
  intro x hx
  obtain ⟨j, hj, rfl⟩ := List.getElem_of_mem hx
  simp [h j hj]
 rw [this]
theorem firstF_some {α : Type} {p : α -> Bool} {z : α} {l : List α} {i : Nat} (hi : i < l.length) (hp : p l[i] = true) (h : ∀ j (hj : j < l.length), j < i -> p l[j] = false) : firstF p z l = (l[i], true) := by
 unfold firstF
 have : l.find? p = some l[i] := by
  rw [List.find?_eq_some_iff_getElem]
  refine ⟨hp, i, hi, rfl, fun j hj => ?_⟩
  simp [h j (by omega) hj]
 rw [this]
theorem filt0 {α : Type} {p : α -> Bool} {l : List α} {i : Nat} (hi : i < l.length) (hp : p l[i] = true) (h : ∀ j (hj : j < l.length), j < i -> p l[j] = false) : l.take i = (l.take (i + 1)).filter fun x => !p x := by
 rw [List.take_succ_eq_append_getElem hi, List.filter_append, List.filter_cons, hp]
 simp only [Bool.not_true, Bool.false_eq_true, if_false, List.filter_nil, List.append_nil]
 rw [List.filter_eq_self.2]
 intro x hx
 obtain ⟨j, hj, rfl⟩ := List.getElem_of_mem hx
 rw [List.length_take] at hj
 rw [List.getElem_take]
 simp [h j (by omega) (by omega)]
theorem filt_all {α : Type} {p : α -> Bool} {l : List α} (h : ∀ j (hj : j < l.length), p l[j] = false) : l.filter (fun x => !p x) = l := by
 rw [List.filter_eq_self]
 intro x hx
 obtain ⟨j, hj, rfl⟩ := List.getElem_of_mem hx
 simp [h j hj]
theorem drop_get {α : Type} {R l : List α} {j : Nat} (h : R.drop j = l.drop j) (h1 : j < R.length) (h2 : j < l.length) : R[j] = l[j] /\ R.drop (j + 1) = l.drop (j + 1) := by
 rw [List.drop_eq_getElem_cons h1, List.drop_eq_getElem_cons h2] at h
 exact ⟨(List.cons.inj h).1, (List.cons.inj h).2⟩
theorem filt_skip {α : Type} {p : α -> Bool} {R l : List α} {i j : Nat} (ht : R.take i = (l.take j).filter fun x => !p x) (hj : j < l.length) (hp : p l[j] = true) : R.take i = (l.take (j + 1)).filter fun x => !p x := by
 rw [List.take_succ_eq_append_getElem hj, List.filter_append, List.filter_cons, hp, ht]
 simp
theorem filt_keep {α : Type} {p : α -> Bool} {R l : List α} {i j : Nat} (ht : R.take i = (l.take j).filter fun x => !p x) (hi : i < R.length) (hj : j < l.length) (hp : p l[j] = false) : (R.set i l[j]).take (i + 1) = (l.take (j + 1)).filter fun x => !p x := by
 rw [List.take_succ_eq_append_getElem hj, List.filter_append, List.filter_cons, hp, <- ht, List.take_succ_eq_append_getElem (by simpa using hi), List.take_set_of_le (Nat.le_refl _)]
 simp
theorem lay_take {α : Type} {l us : List α} {i : Nat} (h : i <= l.length) : (lay l i us).take i = l.take i := by
 unfold lay splice
 rw [List.append_assoc, List.take_append_of_le_length (by simp; omega), List.take_take, Nat.min_self]
theorem lay_eq {α : Type} {A M B us : List α} {i : Nat} (hA : A.length = i) (hM : M.length = us.length) : lay (A ++ (M ++ B)) i us = A ++ (us ++ B) := by
 subst hA
 unfold lay splice
 rw [List.take_left, <- hM, <- List.drop_drop, List.drop_left, List.drop_left, List.append_assoc]
theorem ins_rows {α : Type} {L : List α} {X Z : α} {i n : Nat} (hn : L.length = n) (hi : i < n) :
  lay (lay (L.take i ++ List.replicate (n + 1 - i) Z) i [X]) (i + 1) (((L.drop i).take (n - i)).take (n + 1 - (i + 1))) = L.take i ++ X :: L.drop i := by
 have h1 : (L.take i).length = i := by rw [List.length_take]; omega
 have h2 : ((L.drop i).take (n - i)).take (n + 1 - (i + 1)) = L.drop i := by
  rw [List.take_of_length_le (by rw [List.length_take, List.length_drop]; omega), List.take_of_length_le (by rw [List.length_drop]; omega)]
 rw [h2, show n + 1 - i = (n - i) + 1 from by omega, List.replicate_succ]
 have h3 : lay (L.take i ++ Z :: List.replicate (n - i) Z) i [X] = L.take i ++ ([X] ++ List.replicate (n - i) Z) := lay_eq (M := [Z]) h1 rfl
 have h4 : (L.take i ++ [X]).length = i + 1 := by rw [List.length_append, h1]; rfl
 have h5 := lay_eq (A := L.take i ++ [X]) (M := List.replicate (n - i) Z) (B := []) (us := L.drop i) h4 (by rw [List.length_replicate, List.length_drop]; omega)
 rw [h3]
 simpa using h5
theorem ins_wide {α : Type} {L sp : List α} {X : α} {i n : Nat} (hn : L.length = n) (hi : i < n) (hs : 0 < sp.length) :
  (lay (lay (L ++ sp) (i + 1) ((((L ++ sp).drop i).take (n + 1 - i)).take (n + 1 - (i + 1)))) i [X]).take (n + 1) = L.take i ++ X :: L.drop i := by
 have h1 : (L.take i).length = i := by rw [List.length_take]; omega
 have h2 : (((L ++ sp).drop i).take (n + 1 - i)).take (n + 1 - (i + 1)) = L.drop i := by
  rw [List.take_take, Nat.min_eq_left (by omega), List.drop_append_of_le_length (by omega), List.take_append_of_le_length (by rw [List.length_drop]; omega), List.take_of_length_le (by rw [List.length_drop]; omega)]
 rw [h2]
 have h5 : ((L ++ sp).take (i + 1)).length = i + 1 := by rw [List.length_take, List.length_append]; omega
 have h6 : L ++ sp = (L ++ sp).take (i + 1) ++ ((((L ++ sp).drop (i + 1)).take (n - i)) ++ ((L ++ sp).drop (i + 1)).drop (n - i)) := by rw [List.take_append_drop, List.take_append_drop]
 have h7 : lay (L ++ sp) (i + 1) (L.drop i) = (L ++ sp).take (i + 1) ++ (L.drop i ++ ((L ++ sp).drop (i + 1)).drop (n - i)) := by
  conv => lhs; arg 1; rw [h6]
  exact lay_eq h5 (by rw [List.length_take, List.length_drop, List.length_append, List.length_drop]; omega)
 have h8 : (L ++ sp).take (i + 1) = L.take i ++ [L[i]'(by omega)] := by rw [List.take_append_of_le_length (by omega), List.take_succ_eq_append_getElem (by omega)]
 rw [h7, h8, List.append_assoc, lay_eq (M := [L[i]'(by omega)]) (us := [X]) h1 rfl]
 have h9 : (L.take i ++ ([X] ++ L.drop i)).length = n + 1 := by rw [List.length_append, h1, List.length_append, List.length_drop]; simp; omega
 rw [<- List.append_assoc [X], <- List.append_assoc, List.take_left' h9]
 rfl
theorem flat_lay {l us : List (List D)} {i : Nat} (h1 : flatRows l) (h2 : flatRows us) : flatRows (lay l i us) := fun r hr => (splice_mem hr).elim (h1 r) (h2 r)
end Go.Proofs.YtebinioiggfplaaGreat.Mod
