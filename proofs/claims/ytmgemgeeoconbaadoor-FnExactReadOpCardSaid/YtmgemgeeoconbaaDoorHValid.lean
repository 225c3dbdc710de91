/- Contracts: Valid. -/
import Derived.Test.YtmgemgeeoconbaaDoorRows
import Derived.Test.YtmgemgeeoconbaaDoorHTy
import Derived.Test.YtmgemgeeoconbaaDoorAbsTac
import Derived.Test.YtmgemgeeoconbaaDoorAbsData
import Derived.Test.YtmgemgeeoconbaaDoorHHist
import Derived.Test.YtmgemgeeoconbaaDoorHSame
import Derived.Test.YtmgemgeeoconbaaDoorHStore
import Derived.WalkKit
import Derived.ProofKit
import Derived.OpenShut
namespace Go.Proofs.YtmgemgeeoconbaaDoor.Mod
open Go.Proofs.Tryd Go.Abs Go.Proofs.YtmgemgeeoconbaaDoor.Ty Go.ChangeShapes Go.WideShapes Go.ChangeAt Go.RowKit
set_option linter.unusedSimpArgs false
set_option linter.unusedVariables false
set_option maxHeartbeats 8000000
set_option maxRecDepth 100000
theorem take_split {α : Type} {l : List α} {i : Nat} {x : α} (h : i < l.length) (e : l[i] = x) : l = l.take i ++ x :: l.drop (i + 1) := by rw [<- e, <- List.drop_eq_getElem_cons h, List.take_append_drop]
theorem encI_fold (z : Int) : ([D.int .i64 z] : List D) = encI z := rfl
theorem ibeq (a b : Int) : (a == b) = decide (a = b) := by by_cases h : a = b <;> simp [h]
def pinOk (e : Int) (p : Pin) : Bool := within p.Epoch 0 e && (within p.Seen 0 2 && (p.On || decide (p = ⟨false, 0, false, 0⟩)))
def clockOk (c : Clock) : Bool := within c.Epoch 0 100000 && decide ((c.Pins.length : Int) = 3) && c.Pins.all (pinOk c.Epoch)
def rowOk (r : LRow) : Bool := handleOk r.Handle && within r.Epoch 0 100000
def rslot (r : LRow) : Int := r.Handle % 32
def goodRows (l : List LRow) : Bool := l.all rowOk && decide (l.map rslot).Nodup
def limboOk (l : List LList) : Bool := decide ((l.length : Int) = 3) && decide (((rowsOf l).length : Int) <= 24) && goodRows (rowsOf l)
theorem goodRows_iff (l : List LRow) : goodRows l = true ↔ (∀ x ∈ l, rowOk x = true) /\ (l.map rslot).Nodup := by simp [goodRows]
theorem goodRows_snoc {q : List LRow} {x : LRow} (h : goodRows q = true) (hw : rowOk x = true) (hx : rslot x ∉ q.map rslot) : goodRows (q ++ [x]) = true := by
 obtain ⟨h1, h2⟩ := (goodRows_iff _).1 h
 refine (goodRows_iff _).2 ⟨fun y hy => ?_, ?_⟩
 ·rcases List.mem_append.1 hy with hy | hy
  ·exact h1 y hy
  ·rw [List.mem_singleton.1 hy]; exact hw
 ·rw [List.map_append]
  exact List.nodup_append.2 ⟨h2, by simp, fun a ha b hb e => hx (by rw [List.map_cons, List.map_nil, List.mem_singleton] at hb; rw [hb] at e; exact e ▸ ha)⟩
theorem goodRows_bad {a b : List LRow} {x : LRow} (h : rowOk x = false \/ rslot x ∈ a.map rslot) : goodRows (a ++ x :: b) = false := by
 rw [Bool.eq_false_iff]
 intro hg
 obtain ⟨h1, h2⟩ := (goodRows_iff _).1 hg
 rcases h with h | h
 ·rw [h1 x (by simp)] at h; cases h
 ·rw [List.map_append, List.map_cons] at h2
  exact (List.nodup_append.1 h2).2.2 _ h _ (by simp) rfl
theorem limboOk_bad {l : List LList} {a b : List LRow} {x : LRow} (hs : rowsOf l = a ++ x :: b) (h : rowOk x = false \/ rslot x ∈ a.map rslot) : limboOk l = false := by
 rw [limboOk, hs, goodRows_bad h, Bool.and_false]
theorem limboOk_good {l : List LList} (h3 : l.length = 3) (hg : goodRows (rowsOf l) = true) : limboOk l = decide (((rowsOf l).length : Int) <= 24) := by
 rw [limboOk, hg, h3, Bool.and_true]; rfl
theorem limboOk_len {l : List LList} (h : limboOk l = true) : l.length = 3 /\ (rowsOf l).length <= 24 /\ goodRows (rowsOf l) = true := by
 simp only [limboOk, Bool.and_eq_true, decide_eq_true_eq] at h
 exact ⟨by omega, by omega, h.2⟩
theorem rslot_in {r : LRow} (h : rowOk r = true) : within (rslot r) 0 23 = true /\ r.Handle.tmod 32 = rslot r := by
 simp only [rowOk, Bool.and_eq_true] at h
 have hb := (handleOk_iff _).1 h.1
 refine ⟨?_, (handle_pos h.1).1⟩
 show decide (0 <= r.Handle % 32 /\ r.Handle % 32 <= 23) = true
 exact decide_eq_true (by omega)
def hazOk (z : List Int) : Bool := decide ((z.length : Int) = 3) && z.all isLink
def rowLive (b : Base) (r : LRow) : Bool := isLiveM b.Mem r.Handle && decide (r.Epoch <= b.Clock.Epoch)
def baseOk (b : Base) : Bool := memOk b.Mem && clockOk b.Clock && limboOk b.Limbo && hazOk b.Haz && (rowsOf b.Limbo).all (rowLive b)
theorem base_len {b : Base} (hz : sizBase b <= 1048576) : sizMem b.Mem <= 1048576 /\ b.Clock.Pins.length <= 1048576 /\ b.Limbo.length <= 1048576 /\ (rowsOf b.Limbo).length <= 1048576 /\ b.Haz.length <= 1048576 /\ ∀ x ∈ b.Limbo, x.Rows.length <= 1048576 := by
 have hs : ∀ x ∈ b.Limbo, x.Rows.length <= (b.Limbo.map sizLList).sum := fun x hx => sum_mem sizLList hx
 rw [rowsOf_len]
 unfold sizBase sizLListS sizClock at hz
 exact ⟨by omega, by omega, by omega, by omega, by omega, fun x hx => by have := hs x hx; omega⟩
theorem rowsOf_all (l : List LList) (p : LRow -> Bool) : (rowsOf l).all p = l.all fun x => x.Rows.all p := by
 simp only [rowsOf, List.all_flatten, List.all_map]; rfl
theorem any_congr_not {α : Type} (l : List α) (p q : α -> Bool) (h : ∀ x ∈ l, p x = !q x) : (!l.any p) = l.all q := by
 induction l with
 | nil => rfl
 | cons a l ih => rw [List.any_cons, List.all_cons, Bool.not_or, ih fun x hx => h x (List.mem_cons_of_mem _ hx), h a (by simp), Bool.not_not]
theorem baseOk_parts {b : Base} (h : baseOk b = true) : memOk b.Mem = true /\ clockOk b.Clock = true /\ limboOk b.Limbo = true /\ hazOk b.Haz = true /\ shapedM b.Mem.Heap = true := by
 simp only [baseOk, Bool.and_eq_true] at h
 exact ⟨h.1.1.1.1, h.1.1.1.2, h.1.1.2, h.1.2, (memOk_heap h.1.1.1.1).2.2⟩
end Go.Proofs.YtmgemgeeoconbaaDoor.Mod
