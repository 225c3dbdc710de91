/- Contracts: Store. -/
import Derived.Test.YtmgemgeeoconbaaDoorRows
import Derived.Test.YtmgemgeeoconbaaDoorHTy
import Derived.Test.YtmgemgeeoconbaaDoorAbsTac
import Derived.Test.YtmgemgeeoconbaaDoorAbsData
import Derived.Test.YtmgemgeeoconbaaDoorHHeap
import Derived.Test.YtmgemgeeoconbaaDoorHHist
import Derived.WalkKit
import Derived.ProofKit
import Derived.OpenShut
namespace Go.Proofs.YtmgemgeeoconbaaDoor.Mod
open Go.Proofs.Tryd Go.Abs Go.Proofs.YtmgemgeeoconbaaDoor.Ty Go.ChangeShapes Go.WideShapes Go.ChangeAt Go.RowKit
set_option linter.unusedSimpArgs false
set_option linter.unusedVariables false
set_option maxHeartbeats 8000000
set_option maxRecDepth 100000
def metL (seen : List Int) : List Leaf := (List.range 24).map fun (k : Nat) => .dat (.bool (decide ((k : Int) ∈ seen)))
@[simp] theorem metL_nil : metL [] = [.dat (.bool false), .dat (.bool false), .dat (.bool false), .dat (.bool false), .dat (.bool false), .dat (.bool false), .dat (.bool false), .dat (.bool false), .dat (.bool false), .dat (.bool false), .dat (.bool false), .dat (.bool false), .dat (.bool false), .dat (.bool false), .dat (.bool false), .dat (.bool false), .dat (.bool false), .dat (.bool false), .dat (.bool false), .dat (.bool false), .dat (.bool false), .dat (.bool false), .dat (.bool false), .dat (.bool false)] := by
 simp [metL]
 rfl
theorem metL_len (seen : List Int) : (metL seen).length = 24 := by simp [metL]
@[simp] theorem metL_ren (seen : List Int) (ids : List Nat) : (metL seen).map (Leaf.renF ids) = metL seen := by simp [metL, Leaf.renF]
@[simp] theorem metL_mem (seen : List Int) (l : Leaf) : l ∈ metL seen ↔ ∃ k : Nat, k < 24 /\ Leaf.dat (.bool (decide ((k : Int) ∈ seen))) = l := by simp [metL]
theorem metL_get {seen : List Int} {x : Int} {d : Leaf} (h : within x 0 23 = true) : (metL seen).getD (x.toNat * 1) d = .dat (.bool (decide (x ∈ seen))) := by
 simp only [within, Bool.and_eq_true, decide_eq_true_eq] at h
 have : x.toNat < 24 := by omega
 simp [metL, List.getD_eq_getElem?_getD, this, show max x 0 = x by omega]
theorem metL_off (seen : List Int) (k : Nat) : ∃ b, (metL seen).getD k ((metL seen).getD 0 .emp) = .dat (.bool b) := by
 by_cases h : k < 24
 ·simp [metL, List.getD_eq_getElem?_getD, h]
 ·simp [metL, List.getD_eq_getElem?_getD, h]
theorem metL_set {seen : List Int} {x : Int} (h : within x 0 23 = true) : splice (metL seen) (x.toNat * 1) [.dat (.bool true)] = metL (seen ++ [x]) := by
 simp only [within, Bool.and_eq_true, decide_eq_true_eq] at h
 have hk : x.toNat * 1 < (metL seen).length := by rw [metL_len]; omega
 have e : splice (metL seen) (x.toNat * 1) [.dat (.bool true)] = (metL seen).set (x.toNat * 1) (.dat (.bool true)) := by
  rw [List.set_eq_take_append_cons_drop, if_pos hk]
  simp [splice]
 rw [e]
 refine List.ext_getElem (by simp [metL_len]) fun j h1 h2 => ?_
 rw [metL_len] at h2
 rw [List.getElem_set]
 simp only [metL, List.getElem_map, List.getElem_range, List.mem_append, List.mem_singleton]
 split
 ·rename_i hj
  have : (j : Int) = x := by omega
  simp [this]
 ·rename_i hj
  have : ¬ (j : Int) = x := by omega
  simp [this]
theorem goodSlots_iff (l : List Int) : goodSlots l = true ↔ (∀ x ∈ l, within x 0 23 = true) /\ l.Nodup := by simp [goodSlots]
theorem goodSlots_comm (a b : List Int) : goodSlots (a ++ b) = goodSlots (b ++ a) := by
 rw [Bool.eq_iff_iff, goodSlots_iff, goodSlots_iff, (List.perm_append_comm (l₁ := a) (l₂ := b)).nodup_iff]
 simp only [List.mem_append, or_comm]
theorem goodSlots_snoc {q : List Int} {x : Int} (h : goodSlots q = true) (hw : within x 0 23 = true) (hx : x ∉ q) : goodSlots (q ++ [x]) = true := by
 obtain ⟨h1, h2⟩ := (goodSlots_iff _).1 h
 refine (goodSlots_iff _).2 ⟨fun y hy => ?_, ?_⟩
 ·rcases List.mem_append.1 hy with hy | hy
  ·exact h1 y hy
  ·rw [List.mem_singleton.1 hy]; exact hw
 ·exact List.nodup_append.2 ⟨h2, by simp, fun a ha b hb e => hx (by rw [List.mem_singleton.1 hb] at e; exact e ▸ ha)⟩
theorem goodSlots_bad {a b : List Int} {x : Int} (h : within x 0 23 = false \/ x ∈ a) : goodSlots (a ++ x :: b) = false := by
 rw [Bool.eq_false_iff]
 intro hg
 obtain ⟨h1, h2⟩ := (goodSlots_iff _).1 hg
 rcases h with h | h
 ·rw [h1 x (by simp)] at h; cases h
 ·exact (List.nodup_append.1 h2).2.2 x h x (by simp) rfl
theorem listsOk_big {l : Lists} {L : List SList} (hL : L = l.Own ++ l.Global) {i : Nat} (hi : i < L.length) (h9 : i < l.Own.length) (h : 2 < (L[i].Slots.length : Int)) : listsOk l = false := by
 subst hL
 rw [List.getElem_append_left h9] at h
 have : l.Own.all (fun s => decide ((s.Slots.length : Int) <= 2)) = false := by
  rw [Bool.eq_false_iff]
  intro ha
  have := of_decide_eq_true (List.all_eq_true.1 ha _ (List.getElem_mem h9))
  omega
 simp [listsOk, this]
theorem slotsOf_app (a b : List SList) : slotsOf (a ++ b) = slotsOf a ++ slotsOf b := by simp [slotsOf]
theorem listsOk_bad {l : Lists} {L : List SList} (hL : L = l.Own ++ l.Global) {a b : List Int} {x : Int} (hs : slotsOf L = a ++ x :: b) (h : within x 0 23 = false \/ x ∈ a) : listsOk l = false := by
 rw [hL, slotsOf_app] at hs
 simp only [listsOk, goodSlots_comm (slotsOf l.Global), hs, goodSlots_bad h, Bool.and_false]
theorem listsOk_good {l : Lists} {L : List SList} (hL : L = l.Own ++ l.Global) (h3 : l.Global.length = 3) (h9 : l.Own.length = 9) (hs : goodSlots (slotsOf L) = true) (h : ∀ j, j < 9 -> ((L.getD j ⟨[]⟩).Slots.length : Int) <= 2) : listsOk l = true := by
 rw [hL, slotsOf_app] at hs
 have : l.Own.all (fun s => decide ((s.Slots.length : Int) <= 2)) = true := by
  rw [List.all_eq_true]
  intro s hm
  obtain ⟨j, hj, rfl⟩ := List.getElem_of_mem hm
  have := h j (by omega)
  rw [hL, List.getD_eq_getElem?_getD, List.getElem?_append_left hj, List.getElem?_eq_getElem hj] at this
  exact decide_eq_true this
 simp only [listsOk, goodSlots_comm (slotsOf l.Global), hs, this, h3, h9]
 rfl
theorem not_t {b : Bool} (h : (!b) = true) : b = false := by simpa using h
theorem not_f {b : Bool} (h : (!b) = false) : b = true := by simpa using h
def listFitsM (h : Heap) (l : List Int) (c : Int) : Bool := l.all fun s => (classInM h s == c) && decide (genInM h s <= 6)
def stateM (m : Mem) (s : Int) : Int := if classInM m.Heap s < 0 then 0 else if onListM m.Lists s = true then 1 else if 6 < genInM m.Heap s then 2 else 3
def isLiveM (m : Mem) (h : Int) : Bool := handleOk h && (stateM m (h % 32) == 3) && (genInM m.Heap (h % 32) == h / 32)
def globFits (m : Mem) (j : Nat) : Bool := listFitsM m.Heap (m.Lists.Global.getD j ⟨[]⟩).Slots j
def ownFits (m : Mem) (j : Nat) : Bool := listFitsM m.Heap (m.Lists.Own.getD j ⟨[]⟩).Slots ((j % 3 : Nat) : Int)
def memOk (m : Mem) : Bool := heapOk m.Heap && listsOk m.Lists && (List.range 3).all (globFits m) && (List.range 9).all (ownFits m)
theorem genOf_in {h : Heap} {s : Int} (hs : shapedM h = true) (hc : 0 <= classInM h s) : genOfM h s = genInM h s := by
 have : classAtM h s = classInM h s := by simp [classAtM, hs]
 rw [genOfM, this, if_neg (by omega)]
theorem fits_in {h : Heap} {s c : Int} (hs : shapedM h = true) (hc : 0 <= c) : (bif (classInM h s != c) then true else decide (6 < genOfM h s)) = !((classInM h s == c) && decide (genInM h s <= 6)) := by
 by_cases h1 : classInM h s = c
 ·rw [genOf_in hs (by omega)]
  have e1 : (classInM h s == c) = true := by simp [h1]
  simp only [bne, e1, Bool.not_true, cond_false, Bool.true_and]
  by_cases h2 : genInM h s <= 6
  ·rw [decide_eq_true h2, decide_eq_false (by omega)]; rfl
  ·rw [decide_eq_false h2, decide_eq_true (by omega)]; rfl
 ·have e1 : (classInM h s == c) = false := by simp [h1]
  simp only [bne, e1, Bool.not_false, cond_true, Bool.false_and]
theorem fits_sp {h : Heap} {s c : Int} : (bif (classInM h s != c) then true else decide (6 < genInM h s)) = !((classInM h s == c) && decide (genInM h s <= 6)) := by
 by_cases h1 : classInM h s = c
 ·have e1 : (classInM h s == c) = true := by simp [h1]
  simp only [bne, e1, Bool.not_true, cond_false, Bool.true_and]
  by_cases h2 : genInM h s <= 6
  ·rw [decide_eq_true h2, decide_eq_false (by omega)]; rfl
  ·rw [decide_eq_false h2, decide_eq_true (by omega)]; rfl
 ·have e1 : (classInM h s == c) = false := by simp [h1]
  simp only [bne, e1, Bool.not_false, cond_true, Bool.false_and]
theorem memOk_heap {m : Mem} (h : memOk m = true) : heapOk m.Heap = true /\ listsOk m.Lists = true /\ shapedM m.Heap = true := by
 simp only [memOk, Bool.and_eq_true] at h
 exact ⟨h.1.1.1, h.1.1.2, heapOk_shaped h.1.1.1⟩
theorem memOk_h {m : Mem} (h : heapOk m.Heap = false \/ listsOk m.Lists = false) : memOk m = false := by
 rcases h with h | h <;> simp [memOk, h]
theorem memOk_g {m : Mem} {j : Nat} (hj : j < 3) (h : globFits m j = false) : memOk m = false := by
 have : (List.range 3).all (globFits m) = false := by
  rw [Bool.eq_false_iff]; intro ha
  rw [List.all_eq_true.1 ha j (List.mem_range.2 hj)] at h; cases h
 simp [memOk, this]
theorem memOk_o {m : Mem} {j : Nat} (hj : j < 9) (h : ownFits m j = false) : memOk m = false := by
 have : (List.range 9).all (ownFits m) = false := by
  rw [Bool.eq_false_iff]; intro ha
  rw [List.all_eq_true.1 ha j (List.mem_range.2 hj)] at h; cases h
 simp [memOk, this]
theorem memOk_t {m : Mem} (h1 : heapOk m.Heap = true) (h2 : listsOk m.Lists = true) (hg : ∀ j, j < 3 -> globFits m j = true) (ho : ∀ j, j < 9 -> ownFits m j = true) : memOk m = true := by
 simp only [memOk, h1, h2, Bool.true_and, Bool.and_eq_true, List.all_eq_true, List.mem_range]
 exact ⟨hg, ho⟩
theorem listsOk_len {l : Lists} (h : listsOk l = true) : l.Global.length = 3 /\ l.Own.length = 9 := by
 simp only [listsOk, Bool.and_eq_true, decide_eq_true_eq] at h
 omega
theorem state3_class {m : Mem} {s : Int} (h : stateM m s = 3) : 0 <= classInM m.Heap s := by
 unfold stateM at h
 split at h
 ·omega
 ·omega
theorem handle_pos {h : Int} (hh : handleOk h = true) : h.tmod 32 = h % 32 /\ h.tdiv 32 = h / 32 /\ IntKind.i64.wrap (h / 32) = h / 32 := by
 have hb := (handleOk_iff h).1 hh
 exact ⟨Int.tmod_eq_emod_of_nonneg (by omega), Int.tdiv_eq_ediv_of_nonneg (by omega), wrap_id (by omega) (by omega)⟩
end Go.Proofs.YtmgemgeeoconbaaDoor.Mod
