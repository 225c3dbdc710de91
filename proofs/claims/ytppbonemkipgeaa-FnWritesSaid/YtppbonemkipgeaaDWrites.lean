/- Contracts: Writes. -/
import Derived.Test.YtppbonemkipgeaaRows
import Derived.Test.YtppbonemkipgeaaDTy
import Derived.Test.YtppbonemkipgeaaAbsTac
import Derived.Test.YtppbonemkipgeaaAbsData
import Derived.Test.YtppbonemkipgeaaDDraws
import Derived.Test.YtppbonemkipgeaaDTouchM
import Derived.WalkKit
import Derived.ProofKit
import Derived.OpenShut
namespace Go.Proofs.Ytppbonemkipgeaa.Mod
open Go.Proofs.Try Go.Abs Go.Proofs.Ytppbonemkipgeaa.Ty Go.ChangeShapes Go.WideShapes Go.ChangeAt Go.RowKit
set_option linter.unusedSimpArgs false
set_option linter.unusedVariables false
set_option maxHeartbeats 8000000
set_option maxRecDepth 100000
def AscW (l : List Write) : Prop := l.Pairwise fun a b => a.Key < b.Key
theorem wdel_key {l : List Write} {k : Int} {x : Write} (h : x ∈ writeDel l k) : x ∈ l /\ x.Key ≠ k := by
 unfold writeDel at h
 rw [List.mem_filter] at h
 exact ⟨h.1, by simpa using h.2⟩
theorem ascW_ins {y : Write} : ∀ {m : List Write}, AscW m -> (∀ x ∈ m, x.Key ≠ y.Key) -> AscW (insF (fun x : Write => decide (y.Key < x.Key)) y m)
 | [], _, _ => by simp [insF, AscW]
 | a :: m, h, hk => by
  unfold AscW at h ⊢
  rw [List.pairwise_cons] at h
  unfold insF
  have ha := hk a (by simp)
  split
  ·rename_i hlt
   have hlt : y.Key < a.Key := by simpa using hlt
   refine List.pairwise_cons.2 ⟨fun x hx => ?_, List.pairwise_cons.2 h⟩
   rcases List.mem_cons.1 hx with rfl | hx
   ·exact hlt
   ·have := h.1 x hx; omega
  ·rename_i hlt
   have hlt : ¬ y.Key < a.Key := by simpa using hlt
   refine List.pairwise_cons.2 ⟨fun x hx => ?_, ascW_ins (m := m) h.2 fun x hx => hk x (by simp [hx])⟩
   rcases insF_mem.1 hx with rfl | hx
   ·omega
   ·exact h.1 x hx
theorem ascW_put {l : List Write} (h : AscW l) (w : Write) : AscW (writePut l w) :=
 ascW_ins (y := w) (List.Pairwise.filter _ h) fun x hx => (wdel_key hx).2
theorem wput_mem {l : List Write} {w x : Write} (h : x ∈ writePut l w) : x = w \/ x ∈ l := by
 rcases insF_mem.1 h with h | h
 ·exact .inl h
 ·exact .inr (wdel_key h).1
def wEff (d : Int × Bool) (k : Int) : List Write -> Int × Bool
 | [] => d
 | w :: l => if w.Key = k then (if w.Del then (0, false) else (w.Val, true)) else wEff d k l
theorem wEff_no {d : Int × Bool} {k : Int} : ∀ {l : List Write}, (∀ x ∈ l, x.Key ≠ k) -> wEff d k l = d
 | [], _ => rfl
 | x :: l, h => by rw [wEff, if_neg (h x (by simp)), wEff_no fun y hy => h y (by simp [hy])]
theorem wEff_del {d : Int × Bool} {k i : Int} (h : i ≠ k) : ∀ l : List Write, wEff d i (writeDel l k) = wEff d i l
 | [] => rfl
 | x :: l => by
  have ih := wEff_del (d := d) h l
  unfold writeDel at ih ⊢
  rw [List.filter_cons]
  by_cases hx : x.Key = k
  ·have h1 : (!(x.Key == k)) = false := by simp [hx]
   rw [h1, if_neg (by simp), ih, wEff, if_neg (by omega)]
  ·have h1 : (!(x.Key == k)) = true := by simp [hx]
   rw [h1, if_pos rfl, wEff, wEff, ih]
theorem wEff_ins_ne {d : Int × Bool} {p : Write -> Bool} {y : Write} {i : Int} (h : y.Key ≠ i) : ∀ m : List Write, wEff d i (insF p y m) = wEff d i m
 | [] => by simp [insF, wEff, h]
 | a :: m => by
  unfold insF
  split
  ·rw [wEff, if_neg h]
  ·rw [wEff, wEff, wEff_ins_ne h m]
theorem wEff_ins {d : Int × Bool} {p : Write -> Bool} {y : Write} : ∀ {m : List Write}, (∀ x ∈ m, x.Key ≠ y.Key) -> wEff d y.Key (insF p y m) = if y.Del then (0, false) else (y.Val, true)
 | [], _ => by rw [insF, wEff, if_pos rfl]
 | a :: m, h => by
  unfold insF
  split
  ·rw [wEff, if_pos rfl]
  ·rw [wEff, if_neg (h a (by simp)), wEff_ins fun x hx => h x (by simp [hx])]
theorem wEff_put (d : Int × Bool) (l : List Write) (w : Write) (k : Int) : wEff d k (writePut l w) = if w.Key = k then (if w.Del then (0, false) else (w.Val, true)) else wEff d k l := by
 by_cases h : w.Key = k
 ·rw [if_pos h]; subst h
  exact wEff_ins (y := w) fun x hx => (wdel_key hx).2
 ·rw [if_neg h]
  unfold writePut
  rw [wEff_ins_ne (y := ⟨w.Key, w.Del, w.Val⟩) h, wEff_del (fun e => h e.symm)]
theorem mapGet_wr1 (m : List KV) (w : Write) (k : Int) : mapGet k (wr1 m w) = if w.Key = k then (if w.Del then (0, false) else (w.Val, true)) else mapGet k m := by
 unfold wr1
 by_cases h : w.Key = k
 ·rw [if_pos h]; subst h
  split
  ·exact mapGet_del _ _
  ·exact mapGet_put _ _ _
 ·rw [if_neg h]
  split
  ·exact mapGet_del_ne (fun e => h e.symm) _
  ·exact mapGet_put_ne (fun e => h e.symm)
theorem mapGet_apply : ∀ (l : List Write) (m : List KV), AscW l -> ∀ k, mapGet k (applyWrites m l) = wEff (mapGet k m) k l
 | [], m, _, k => rfl
 | w :: l, m, h, k => by
  unfold AscW at h
  rw [List.pairwise_cons] at h
  have ih := mapGet_apply l (wr1 m w) h.2 k
  show mapGet k (applyWrites (wr1 m w) l) = _
  rw [ih, mapGet_wr1, wEff]
  by_cases e : w.Key = k
  ·rw [if_pos e, if_pos e, wEff_no fun x hx => by have := h.1 x hx; omega]
  ·rw [if_neg e, if_neg e]
theorem asc_wr1 {m : List KV} (h : Asc m) (w : Write) : Asc (wr1 m w) := by
 unfold wr1
 split
 ·exact asc_del h _
 ·exact asc_ins (y := ⟨w.Key, w.Val⟩) (asc_del h _) fun x hx => (mapDel_key hx).2
theorem asc_apply : ∀ (l : List Write) {m : List KV}, Asc m -> Asc (applyWrites m l)
 | [], _, h => h
 | w :: l, m, h => asc_apply l (m := wr1 m w) (asc_wr1 h w)
theorem writeOf_at {l : List Write} (h : AscW l) {i : Nat} (hi : i < l.length) : writeOf l l[i].Key = (l[i], true) := by
 unfold AscW at h
 rw [List.pairwise_iff_getElem] at h
 exact writeOf_some hi (by simp) fun j hj hji => by
  have := h j i hj hi hji
  simp; omega
theorem bktOf_nn {k : Int} (h0 : 0 <= k) (h1 : k <= 99) : 0 <= bktOf k := by
 unfold bktOf
 rw [if_pos (by simp [within, h0, h1])]
 rw [Int.tmod_eq_emod_of_nonneg h0]; omega
theorem touched_has {l : List Write} {w : Write} (h : w ∈ l) (h0 : 0 <= w.Key) (h1 : w.Key <= 99) : bktOf w.Key ∈ touchedM l := by
 unfold touchedM
 rw [putsN_mem]
 refine .inr ?_
 have hb := bktOf_nn h0 h1
 induction l with
 | nil => cases h
 | cons x l ih =>
  rw [touchGo]
  rcases List.mem_cons.1 h with rfl | h
  ·rw [if_pos hb]; exact List.mem_cons_self
  ·split
   ·exact List.mem_cons_of_mem _ (ih h)
   ·exact ih h
theorem wget_del (d : List KV) (k j : Int) : mapGet j (mapDel d k) = if k = j then (0, false) else mapGet j d := by
 by_cases h : k = j
 ·rw [if_pos h]; subst h; exact mapGet_del _ _
 ·rw [if_neg h]; exact mapGet_del_ne (fun e => h e.symm) _
theorem wget_put (d : List KV) (k v j : Int) : mapGet j (mapPut d k v) = if k = j then (v, true) else mapGet j d := by
 by_cases h : k = j
 ·rw [if_pos h]; subst h; exact mapGet_put _ _ _
 ·rw [if_neg h]; exact mapGet_put_ne (fun e => h e.symm)
def WInv (l d : List KV) (w : List Write) (i : Nat) : Prop :=
 AscW w /\ w.length <= i /\ d.length <= l.length + i /\ (∀ x ∈ w, 0 <= x.Key /\ x.Key <= 99) /\ Asc d /\ (∀ j, mapGet j d = wEff (mapGet j l) j w) /\ (0 < i -> 0 < w.length)
theorem wput_pos (w : List Write) (x : Write) : 0 < (writePut w x).length := List.length_pos_of_mem (a := x) (insF_mem.2 (.inl rfl))
theorem WInv.del {l d : List KV} {w : List Write} {i : Nat} (h : WInv l d w i) {k : Int} (h0 : 0 <= k) (h1 : k <= 99) : WInv l (mapDel d k) (writePut w ⟨k, true, 0⟩) (i + 1) := by
 obtain ⟨a1, a2, a3, a4, a5, a6, _⟩ := h
 refine ⟨ascW_put a1 _, by have := writePut_len w ⟨k, true, 0⟩; omega, by have := mapDel_len d k; omega, fun x hx => ?_, asc_del a5 k, fun j => ?_, fun _ => wput_pos _ _⟩
 ·rcases wput_mem hx with rfl | hx
  ·exact ⟨h0, h1⟩
  ·exact a4 x hx
 ·rw [wEff_put, wget_del, a6]; simp
theorem WInv.put {l d : List KV} {w : List Write} {i : Nat} (h : WInv l d w i) {k : Int} (h0 : 0 <= k) (h1 : k <= 99) (v : Int) : WInv l (mapPut d k v) (writePut w ⟨k, false, v⟩) (i + 1) := by
 obtain ⟨a1, a2, a3, a4, a5, a6, _⟩ := h
 refine ⟨ascW_put a1 _, by have := writePut_len w ⟨k, false, v⟩; omega, by have := mapPut_len d k v; omega, fun x hx => ?_, asc_ins (y := ⟨k, v⟩) (asc_del a5 k) (fun x hx => (mapDel_key hx).2), fun j => ?_, fun _ => wput_pos _ _⟩
 ·rcases wput_mem hx with rfl | hx
  ·exact ⟨h0, h1⟩
  ·exact a4 x hx
 ·rw [wEff_put, wget_put, a6]; simp
theorem WInv.done {l d : List KV} {w : List Write} {i : Nat} (h : WInv l d w i) (hl : Asc l) : applyWrites l w = d :=
 asc_ext (asc_apply w hl) h.2.2.2.2.1 fun j => by rw [mapGet_apply w l h.1, h.2.2.2.2.2.1]
end Go.Proofs.Ytppbonemkipgeaa.Mod
