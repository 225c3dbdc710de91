/- Contracts: Lists. -/
import Derived.Test.YtmgemgeeoconbaaDoorRows
import Derived.Test.YtmgemgeeoconbaaDoorETy
import Derived.Test.YtmgemgeeoconbaaDoorAbsTac
import Derived.Test.YtmgemgeeoconbaaDoorAbsData
import Derived.Test.YtmgemgeeoconbaaDoorEFam
import Derived.Test.YtmgemgeeoconbaaDoorEFam2
import Derived.Test.YtmgemgeeoconbaaDoorEHeap
import Derived.Test.YtmgemgeeoconbaaDoorENum
import Derived.WalkKit
import Derived.ProofKit
import Derived.OpenShut
namespace Go.Proofs.YtmgemgeeoconbaaDoor.Mod
open Go.Proofs.Tryd Go.Abs Go.Proofs.YtmgemgeeoconbaaDoor.Ty Go.ChangeShapes Go.WideShapes Go.ChangeAt Go.RowKit
set_option linter.unusedSimpArgs false
set_option linter.unusedVariables false
set_option maxHeartbeats 8000000
set_option maxRecDepth 100000
def metL (seen : List Int) : List Leaf := (List.range 24).map fun (k : Nat) => .dat (.bool (decide ((k : Int) ∈ seen)))
@[simp] theorem metL_nil : metL [] = [.dat (.bool false), .dat (.bool false), .dat (.bool false), .dat (.bool false), .dat (.bool false), .dat (.bool false), .dat (.bool false), .dat (.bool false), .dat (.bool false), .dat (.bool false), .dat (.bool false), .dat (.bool false), .dat (.bool false), .dat (.bool false), .dat (.bool false), .dat (.bool false), .dat (.bool false), .dat (.bool false), .dat (.bool false), .dat (.bool false), .dat (.bool false), .dat (.bool false), .dat (.bool false), .dat (.bool false)] := by
 simp [metL]
 rfl
theorem metL_len (seen : List Int) : (metL seen).length = 24 := by simp [metL]
@[simp] theorem metL_ren (seen : List Int) (ids : List Nat) : (metL seen).map (Leaf.renF ids) = metL seen := by simp [metL, Leaf.renF]
@[simp] theorem metL_mem (seen : List Int) (l : Leaf) : l ∈ metL seen ↔ ∃ k : Nat, k < 24 /\ Leaf.dat (.bool (decide ((k : Int) ∈ seen))) = l := by simp [metL]
theorem metL_get {seen : List Int} {x : Int} {d : Leaf} (h : within x 0 23 = true) : (metL seen).getD (x.toNat * 1) d = .dat (.bool (decide (x ∈ seen))) := by
 simp only [within, Bool.and_eq_true, decide_eq_true_eq] at h
 have : x.toNat < 24 := by omega
 simp [metL, List.getD_eq_getElem?_getD, this, show max x 0 = x by omega]
theorem metL_off (seen : List Int) (k : Nat) : ∃ b, (metL seen).getD k ((metL seen).getD 0 .emp) = .dat (.bool b) := by
 by_cases h : k < 24
 ·simp [metL, List.getD_eq_getElem?_getD, h]
 ·simp [metL, List.getD_eq_getElem?_getD, h]
theorem metL_set {seen : List Int} {x : Int} (h : within x 0 23 = true) : splice (metL seen) (x.toNat * 1) [.dat (.bool true)] = metL (seen ++ [x]) := by
 simp only [within, Bool.and_eq_true, decide_eq_true_eq] at h
 have hk : x.toNat * 1 < (metL seen).length := by rw [metL_len]; omega
 have e : splice (metL seen) (x.toNat * 1) [.dat (.bool true)] = (metL seen).set (x.toNat * 1) (.dat (.bool true)) := by
  rw [List.set_eq_take_append_cons_drop, if_pos hk]
  simp [splice]
 rw [e]
 refine List.ext_getElem (by simp [metL_len]) fun j h1 h2 => ?_
 rw [metL_len] at h2
 rw [List.getElem_set]
 simp only [metL, List.getElem_map, List.getElem_range, List.mem_append, List.mem_singleton]
 split
 ·rename_i hj
  have : (j : Int) = x := by omega
  simp [this]
 ·rename_i hj
  have : ¬ (j : Int) = x := by omega
  simp [this]
theorem goodSlots_iff (l : List Int) : goodSlots l = true ↔ (∀ x ∈ l, within x 0 23 = true) /\ l.Nodup := by simp [goodSlots]
theorem goodSlots_comm (a b : List Int) : goodSlots (a ++ b) = goodSlots (b ++ a) := by
 rw [Bool.eq_iff_iff, goodSlots_iff, goodSlots_iff, (List.perm_append_comm (l₁ := a) (l₂ := b)).nodup_iff]
 simp only [List.mem_append, or_comm]
theorem goodSlots_snoc {q : List Int} {x : Int} (h : goodSlots q = true) (hw : within x 0 23 = true) (hx : x ∉ q) : goodSlots (q ++ [x]) = true := by
 obtain ⟨h1, h2⟩ := (goodSlots_iff _).1 h
 refine (goodSlots_iff _).2 ⟨fun y hy => ?_, ?_⟩
 ·rcases List.mem_append.1 hy with hy | hy
  ·exact h1 y hy
  ·rw [List.mem_singleton.1 hy]; exact hw
 ·exact List.nodup_append.2 ⟨h2, by simp, fun a ha b hb e => hx (by rw [List.mem_singleton.1 hb] at e; exact e ▸ ha)⟩
theorem goodSlots_bad {a b : List Int} {x : Int} (h : within x 0 23 = false \/ x ∈ a) : goodSlots (a ++ x :: b) = false := by
 rw [Bool.eq_false_iff]
 intro hg
 obtain ⟨h1, h2⟩ := (goodSlots_iff _).1 hg
 rcases h with h | h
 ·rw [h1 x (by simp)] at h; cases h
 ·exact (List.nodup_append.1 h2).2.2 x h x (by simp) rfl
theorem listsOk_big {l : Lists} {L : List SList} (hL : L = l.Own ++ l.Global) {i : Nat} (hi : i < L.length) (h9 : i < l.Own.length) (h : 2 < (L[i].Slots.length : Int)) : listsOk l = false := by
 subst hL
 rw [List.getElem_append_left h9] at h
 have : l.Own.all (fun s => decide ((s.Slots.length : Int) <= 2)) = false := by
  rw [Bool.eq_false_iff]
  intro ha
  have := of_decide_eq_true (List.all_eq_true.1 ha _ (List.getElem_mem h9))
  omega
 simp [listsOk, this]
theorem slotsOf_app (a b : List SList) : slotsOf (a ++ b) = slotsOf a ++ slotsOf b := by simp [slotsOf]
theorem listsOk_bad {l : Lists} {L : List SList} (hL : L = l.Own ++ l.Global) {a b : List Int} {x : Int} (hs : slotsOf L = a ++ x :: b) (h : within x 0 23 = false \/ x ∈ a) : listsOk l = false := by
 rw [hL, slotsOf_app] at hs
 simp only [listsOk, goodSlots_comm (slotsOf l.Global), hs, goodSlots_bad h, Bool.and_false]
theorem listsOk_good {l : Lists} {L : List SList} (hL : L = l.Own ++ l.Global) (h3 : l.Global.length = 3) (h9 : l.Own.length = 9) (hs : goodSlots (slotsOf L) = true) (h : ∀ j, j < 9 -> ((L.getD j ⟨[]⟩).Slots.length : Int) <= 2) : listsOk l = true := by
 rw [hL, slotsOf_app] at hs
 have : l.Own.all (fun s => decide ((s.Slots.length : Int) <= 2)) = true := by
  rw [List.all_eq_true]
  intro s hm
  obtain ⟨j, hj, rfl⟩ := List.getElem_of_mem hm
  have := h j (by omega)
  rw [hL, List.getD_eq_getElem?_getD, List.getElem?_append_left hj, List.getElem?_eq_getElem hj] at this
  exact decide_eq_true this
 simp only [listsOk, goodSlots_comm (slotsOf l.Global), hs, this, h3, h9]
 rfl
end Go.Proofs.YtmgemgeeoconbaaDoor.Mod
