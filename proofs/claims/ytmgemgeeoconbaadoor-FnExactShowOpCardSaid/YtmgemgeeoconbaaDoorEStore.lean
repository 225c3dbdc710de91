/- Contracts: Store. -/
import Derived.Test.YtmgemgeeoconbaaDoorRows
import Derived.Test.YtmgemgeeoconbaaDoorETy
import Derived.Test.YtmgemgeeoconbaaDoorAbsTac
import Derived.Test.YtmgemgeeoconbaaDoorAbsData
import Derived.Test.YtmgemgeeoconbaaDoorELists
import Derived.WalkKit
import Derived.ProofKit
import Derived.OpenShut
namespace Go.Proofs.YtmgemgeeoconbaaDoor.Mod
open Go.Proofs.Tryd Go.Abs Go.Proofs.YtmgemgeeoconbaaDoor.Ty Go.ChangeShapes Go.WideShapes Go.ChangeAt Go.RowKit
set_option linter.unusedSimpArgs false
set_option linter.unusedVariables false
set_option maxHeartbeats 8000000
set_option maxRecDepth 100000
theorem not_t {b : Bool} (h : (!b) = true) : b = false := by simpa using h
theorem not_f {b : Bool} (h : (!b) = false) : b = true := by simpa using h
def listFitsM (h : Heap) (l : List Int) (c : Int) : Bool := l.all fun s => (classInM h s == c) && decide (genInM h s <= 6)
def stateM (m : Mem) (s : Int) : Int := if classInM m.Heap s < 0 then 0 else if onListM m.Lists s = true then 1 else if 6 < genInM m.Heap s then 2 else 3
def isLiveM (m : Mem) (h : Int) : Bool := handleOk h && (stateM m (h % 32) == 3) && (genInM m.Heap (h % 32) == h / 32)
def globFits (m : Mem) (j : Nat) : Bool := listFitsM m.Heap (m.Lists.Global.getD j ⟨[]⟩).Slots j
def ownFits (m : Mem) (j : Nat) : Bool := listFitsM m.Heap (m.Lists.Own.getD j ⟨[]⟩).Slots ((j % 3 : Nat) : Int)
def memOk (m : Mem) : Bool := heapOk m.Heap && listsOk m.Lists && (List.range 3).all (globFits m) && (List.range 9).all (ownFits m)
theorem genOf_in {h : Heap} {s : Int} (hs : shapedM h = true) (hc : 0 <= classInM h s) : genOfM h s = genInM h s := by
 have : classAtM h s = classInM h s := by simp [classAtM, hs]
 rw [genOfM, this, if_neg (by omega)]
theorem fits_in {h : Heap} {s c : Int} (hs : shapedM h = true) (hc : 0 <= c) : (bif (classInM h s != c) then true else decide (6 < genOfM h s)) = !((classInM h s == c) && decide (genInM h s <= 6)) := by
 by_cases h1 : classInM h s = c
 ·rw [genOf_in hs (by omega)]
  have e1 : (classInM h s == c) = true := by simp [h1]
  simp only [bne, e1, Bool.not_true, cond_false, Bool.true_and]
  by_cases h2 : genInM h s <= 6
  ·rw [decide_eq_true h2, decide_eq_false (by omega)]; rfl
  ·rw [decide_eq_false h2, decide_eq_true (by omega)]; rfl
 ·have e1 : (classInM h s == c) = false := by simp [h1]
  simp only [bne, e1, Bool.not_false, cond_true, Bool.false_and]
theorem fits_sp {h : Heap} {s c : Int} : (bif (classInM h s != c) then true else decide (6 < genInM h s)) = !((classInM h s == c) && decide (genInM h s <= 6)) := by
 by_cases h1 : classInM h s = c
 ·have e1 : (classInM h s == c) = true := by simp [h1]
  simp only [bne, e1, Bool.not_true, cond_false, Bool.true_and]
  by_cases h2 : genInM h s <= 6
  ·rw [decide_eq_true h2, decide_eq_false (by omega)]; rfl
  ·rw [decide_eq_false h2, decide_eq_true (by omega)]; rfl
 ·have e1 : (classInM h s == c) = false := by simp [h1]
  simp only [bne, e1, Bool.not_false, cond_true, Bool.false_and]
theorem memOk_heap {m : Mem} (h : memOk m = true) : heapOk m.Heap = true /\ listsOk m.Lists = true /\ shapedM m.Heap = true := by
 simp only [memOk, Bool.and_eq_true] at h
 exact ⟨h.1.1.1, h.1.1.2, heapOk_shaped h.1.1.1⟩
theorem memOk_h {m : Mem} (h : heapOk m.Heap = false \/ listsOk m.Lists = false) : memOk m = false := by
 rcases h with h | h <;> simp [memOk, h]
theorem memOk_g {m : Mem} {j : Nat} (hj : j < 3) (h : globFits m j = false) : memOk m = false := by
 have : (List.range 3).all (globFits m) = false := by
  rw [Bool.eq_false_iff]; intro ha
  rw [List.all_eq_true.1 ha j (List.mem_range.2 hj)] at h; cases h
 simp [memOk, this]
theorem memOk_o {m : Mem} {j : Nat} (hj : j < 9) (h : ownFits m j = false) : memOk m = false := by
 have : (List.range 9).all (ownFits m) = false := by
  rw [Bool.eq_false_iff]; intro ha
  rw [List.all_eq_true.1 ha j (List.mem_range.2 hj)] at h; cases h
 simp [memOk, this]
theorem memOk_t {m : Mem} (h1 : heapOk m.Heap = true) (h2 : listsOk m.Lists = true) (hg : ∀ j, j < 3 -> globFits m j = true) (ho : ∀ j, j < 9 -> ownFits m j = true) : memOk m = true := by
 simp only [memOk, h1, h2, Bool.true_and, Bool.and_eq_true, List.all_eq_true, List.mem_range]
 exact ⟨hg, ho⟩
theorem listsOk_len {l : Lists} (h : listsOk l = true) : l.Global.length = 3 /\ l.Own.length = 9 := by
 simp only [listsOk, Bool.and_eq_true, decide_eq_true_eq] at h
 omega
theorem state3_class {m : Mem} {s : Int} (h : stateM m s = 3) : 0 <= classInM m.Heap s := by
 unfold stateM at h
 split at h
 ·omega
 ·omega
theorem handle_pos {h : Int} (hh : handleOk h = true) : h.tmod 32 = h % 32 /\ h.tdiv 32 = h / 32 /\ IntKind.i64.wrap (h / 32) = h / 32 := by
 have hb := (handleOk_iff h).1 hh
 exact ⟨Int.tmod_eq_emod_of_nonneg (by omega), Int.tdiv_eq_ediv_of_nonneg (by omega), wrap_id (by omega) (by omega)⟩
end Go.Proofs.YtmgemgeeoconbaaDoor.Mod
