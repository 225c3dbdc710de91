/- Contracts: Fam2. -/
import Derived.Test.YtebinioiggfplaaGreatRows
import Derived.Test.YtebinioiggfplaaGreatBTy
import Derived.Test.YtebinioiggfplaaGreatAbsTac
import Derived.Test.YtebinioiggfplaaGreatAbsData
import Derived.Test.YtebinioiggfplaaGreatBFam
import Derived.WalkKit
import Derived.ProofKit
import Derived.OpenShut
namespace Go.Proofs.YtebinioiggfplaaGreat.Mod
open Go.Proofs.Tryz Go.Abs Go.Proofs.YtebinioiggfplaaGreat.Ty Go.ChangeShapes Go.WideShapes Go.ChangeAt Go.RowKit
set_option linter.unusedSimpArgs false
set_option linter.unusedVariables false
set_option maxHeartbeats 8000000
set_option maxRecDepth 100000
def encI (x : Int) : List D := [.int .i64 x]
theorem sum_get {α : Type} (f : α -> Nat) : ∀ {l : List α} {i : Nat} (h : i < l.length), f l[i] <= (l.map f).sum
 | x :: l, 0, _ => by simp
 | x :: l, i + 1, h => by
  have := sum_get f (l := l) (i := i) (by simpa using h)
  simp; omega
theorem sum_mem {α : Type} (f : α -> Nat) {l : List α} {x : α} (h : x ∈ l) : f x <= (l.map f).sum := by
 obtain ⟨i, hi, rfl⟩ := List.getElem_of_mem h
 exact sum_get f hi
theorem sum_take_succ {α : Type} (f : α -> Nat) {l : List α} {i : Nat} (h : i < l.length) : ((l.take (i + 1)).map f).sum = ((l.take i).map f).sum + f l[i] := by
 rw [List.take_succ_eq_append_getElem h, List.map_append, List.sum_append]; simp
theorem sum_take_le {α : Type} (f : α -> Nat) (l : List α) (i : Nat) : ((l.take i).map f).sum <= (l.map f).sum := by
 conv => rhs; rw [<- List.take_append_drop i l, List.map_append, List.sum_append]
 omega
theorem szL_raw {left : Int} {n : Nat} : decide (szL left n < 0) = decide (left - n < 0) := by
 unfold szL; split <;> simp <;> omega
theorem szL_at {left : Int} {a b : Nat} (h0 : 0 <= left) (h : decide (szL left a < 0) = false) : szL (szL left a) b = szL left (a + b) := by
 unfold szL at h ⊢
 split at h
 ·simp at h
 ·rename_i hn
  rw [if_neg hn]
  by_cases h2 : left - (a + b : Nat) < 0
  ·rw [if_pos h2, if_pos (by omega)]
  ·rw [if_neg h2, if_neg (by omega)]; omega
theorem szL_bad {left : Int} {a t : Nat} (h : decide (szL left a < 0) = true) (ht : a <= t) : (-1 : Int) = szL left t := by
 rw [szL_raw] at h
 simp at h
 unfold szL
 rw [if_pos (by omega)]
theorem c24 (rows : List (List D)) (left : Int) (h0 : 0 <= left) (h1 : left <= 1048576) (hl : rows.length <= maxLen) : Ctr prog 24 [.one (.dat (.sl 1 rows)), .one (.dat (.int .i64 left))] [] (.one (.dat (.int .i64 (szL left rows.length)))) [] := by
 have hw := szL_wrap h0 h1 hl
 refine Ctr.bd mixed func24 rfl ?_
 refine sv0 ?_
 repeat' first
  | ((with_reducible show Abs.Fin _ _ _ _ _ _); refine Fin.nt results24 [] ?_ ?_ ?_ <;> try trivial)
  | with_reducible intro h
  | ((with_reducible show _ /\ _); apply And.intro)
 all_goals try ((refine rsl ?_; try exact .intro))
 all_goals simp_all [szL]
 all_goals omega
theorem c30 (l : List Int) (h : l.length <= 1048576) : Ctr prog 30 [.one (.dat (.sl 1 (l.map encI)))] [] (.one (.own 0)) [.vec 1 true (l.map encI)] := by
 have hl : l.length <= 1048576 := by omega
 refine Ctr.bd mixed func30 rfl ?_
 refine evl ?_
 refine ⟨by omega, ?_⟩
 refine LoopK_intro (fun n s => ∃ i : Nat, i <= l.length /\ n = l.length - i /\ s = mkSt [(4, .one (.dat (.int .i64 i))), (3, .one (.own 0)), (0, .one (.dat (.sl 1 (l.map encI))))]
   [.vec 1 true ((l.take i).map encI ++ List.replicate (l.length - i) [.int .i64 0])]) l.length _
  (Ent.wk [0]) ⟨0, by omega, by omega, rfl⟩ ?_
 rintro n s ⟨i, hi, rfl, rfl⟩ K hK
 rcases Nat.lt_or_ge i l.length with hlt | hge
 ·have hdi : decide ((i : Int) < l.length) = true := by simpa using hlt
  simp (maxSteps := 2000000) only [go_sem, seval, hdi, getD_map hlt, encI, D.flat, wrap_succ hlt (le20 hl)]
  first | refine ⟨⟨by omega, by omega⟩, hlt, ?_⟩ | refine ⟨by omega, hlt, ?_⟩
  repeat' ((with_reducible show _ /\ _); apply And.intro)
  all_goals first
   | (apply hK
      refine ⟨l.length - (i + 1), _, by omega, Ent.weak (ids := [0]) (by simp) rfl (by simp) ?_ ?_ ?_, i + 1, by omega, rfl, rfl⟩
      ·simp only [objsLe, St.obj, find, AObj.renF, if_true, Option.getD_some, List.getD_cons_zero, and_true]
       rw [<- take_set encI l _ hlt]
       exact ⟨by simp, Or.inr rfl⟩
      ·simp [objsLe, envLe, find, St.obj, AObj.renF, AV.renF, AV.renF1, Leaf.renF, LowAll, AV.Low, AV.Low1, Leaf.Low, AObj.Low, Ptr.renF, Ptr.Low]
      ·simp [objsLe, envLe, find, St.obj, AObj.renF, AV.renF, AV.renF1, Leaf.renF, LowAll, AV.Low, AV.Low1, Leaf.Low, AObj.Low, Ptr.renF, Ptr.Low])
   | omega
   | decide
   | (simp; done)
   | (simp; omega)
   | trivial
 ·have hge' : i = l.length := by omega
  subst hge'
  have hdi : decide ((l.length : Int) < l.length) = false := by simp
  refine sv3 ?_
  apply hK
  refine evl ?_
  refine Fin.nt results30 [0] ?_ ?_ ?_ <;> try trivial
  all_goals simp [objsLe, St.obj, find, AObj.renF]
theorem c11 (l l' : List Int) (hl : l.length <= maxLen) (hl' : l'.length <= maxLen) : Ctr prog 11 [.one (.dat (.sl 1 (l.map encI))), .one (.dat (.sl 1 (l'.map encI)))] [] (.one (.dat (.bool (decide (l = l'))))) [] := by
 refine Ctr.bd mixed func11 rfl ?_
 refine evl ?_
 constructor <;> intro h
 ·have hne : l.length ≠ l'.length := by simp at h; omega
  refine Fin.nt results11 [] ?_ ?_ ?_ <;> try trivial
  (refine rsl ?_; try exact .intro)
  symm; rw [decide_eq_false_iff_not]
  intro e; exact hne (by rw [e])
 have hlen : l.length = l'.length := by simp at h; omega
 refine LoopK_intro (fun n s => ∃ i : Nat, i <= l.length /\ n = l.length - i /\ l.take i = l'.take i /\ s = mkSt [(5, .one (.dat (.int .i64 i))), (1, .one (.dat (.sl 1 (l'.map encI)))), (0, .one (.dat (.sl 1 (l.map encI))))] []) l.length _
  (Ent.wk []) ⟨0, by omega, by omega, rfl, rfl⟩ ?_
 rintro n s ⟨i, hi, rfl, ht, rfl⟩ K hK
 rcases Nat.lt_or_ge i l.length with hlt | hge
 ·have hdi : decide ((i : Int) < l.length) = true := by simpa using hlt
  have hlt' : i < l'.length := by omega
  simp (maxSteps := 2000000) only [go_sem, seval, hdi, wrap_succ hlt hl, getD_map hlt, getD_map hlt', encI]
  refine ⟨⟨by omega, by omega⟩, hlt, ⟨by omega, by omega⟩, hlt', ?_⟩
  constructor <;> intro h
  ·apply hK
   refine evl ?_
   refine Fin.nt results11 [] ?_ ?_ ?_ <;> try trivial
   (refine rsl ?_; try exact .intro)
   symm; rw [decide_eq_false_iff_not]
   rintro rfl; simp at h
  ·apply hK
   have he : l[i] = l'[i] := by simpa using h
   exact ⟨l.length - (i + 1), _, by omega, Ent.wk [], i + 1, by omega, rfl, by rw [List.take_succ_eq_append_getElem hlt, List.take_succ_eq_append_getElem hlt', ht, he], rfl⟩
 ·have hge' : i = l.length := by omega
  subst hge'
  have hdi : decide ((l.length : Int) < l.length) = false := by simp
  refine sv3 ?_
  apply hK
  refine evl ?_
  refine Fin.nt results11 [] ?_ ?_ ?_ <;> try trivial
  (refine rsl ?_; try exact .intro)
  symm; rw [decide_eq_true_iff]
  rw [List.take_of_length_le (Nat.le_refl _), List.take_of_length_le (by omega)] at ht
  exact ht
structure Heap where
 Bytes : List Int
 Class : List Int
 deriving DecidableEq
def encHeap (x : Heap) : List D := [.sl 1 (x.Bytes.map encI), .sl 1 (x.Class.map encI)]
def Heap.wf (x : Heap) : Prop := (∀ y ∈ x.Bytes, (Lit.int .i64 y).wf = true) /\ (∀ y ∈ x.Class, (Lit.int .i64 y).wf = true) /\ True
theorem Heap.eq_iff (x y : Heap) : x = y ↔ x.Bytes = y.Bytes /\ x.Class = y.Class := by cases x; cases y; simp
def Heap.lok (x : Heap) : Prop := x.Bytes.length <= maxLen /\ x.Class.length <= maxLen /\ True
def sizHeap (x : Heap) : Nat := x.Bytes.length + x.Class.length
def sizHeapS (l : List Heap) : Nat := l.length + (l.map sizHeap).sum
def zeroHeap : Heap := ⟨[], []⟩
theorem decHeap (n : Nat) (ds : List D) (h : WT prog n 24 ds) : ∃ x : Heap, ds = encHeap x /\ x.wf /\ x.lok := by
 cases n with
 | zero => exact h.elim
 | succ n =>
  unfold WT at h
  rw [underlying24] at h
  simp only [List.toList_toArray, List.map_cons, List.map_nil, WTs] at h
  obtain ⟨_, _, rfl, h0, ⟨_, _, rfl, h1, rfl⟩⟩ := h
  obtain ⟨x0, rfl, c0, w0⟩ := decSl (enc := encI) (q := fun x => (Lit.int .i64 x).wf = true) underlying22 tc_3 (fun _ _ h => decInt underlying3 h) h0
  obtain ⟨x1, rfl, c1, w1⟩ := decSl (enc := encI) (q := fun x => (Lit.int .i64 x).wf = true) underlying22 tc_3 (fun _ _ h => decInt underlying3 h) h1
  exact ⟨⟨x0, x1⟩, rfl, ⟨w0, w1, trivial⟩, ⟨c0, c1, trivial⟩⟩
theorem Heap.lok_of {x : Heap} (h : sizHeap x <= 16777216) : x.lok := by
 have hm : maxLen = 9223372036854775807 := rfl
 unfold sizHeap at h
 exact ⟨by omega, by omega, trivial⟩
theorem lokHeapS {l : List Heap} (h : sizHeapS l <= 16777216) : l.length <= maxLen /\ ∀ y ∈ l, y.lok := by
 have hm : maxLen = 9223372036854775807 := rfl
 unfold sizHeapS at h
 exact ⟨by omega, fun y hy => Heap.lok_of (by have := sum_mem sizHeap hy; omega)⟩
theorem c110 (x : Heap) (hk : x.lok) (left : Int) (h0 : 0 <= left) (h1 : left <= 1048576) : Ctr prog 110 [.agg ((encHeap x).map .dat), .one (.dat (.int .i64 left))] [] (.one (.dat (.int .i64 (szL left (sizHeap x))))) [] := by
 simp only [encHeap, List.map_cons, List.map_nil]
 unfold sizHeap
 refine Ctr.bd mixed func110 rfl ?_
 refine evl ?_
 obtain ⟨kBytes, kClass, _⟩ := hk
 refine CallK_pure e24 (c24 (x.Bytes.map encI) left h0 h1 (by simpa using kBytes)) rfl ?_
 refine evl ?_
 constructor <;> intro h
 ·refine Fin.nt results110 [] ?_ ?_ ?_ <;> try trivial
  (refine rsl ?_; try exact .intro)
  try simp only [List.length_map] at h
  exact szL_bad (h) (by omega)
 try simp only [List.length_map] at h
 have a0 : decide (szL left (x.Bytes.length) < 0) = false := h
 obtain ⟨_, _, g0, u0⟩ := szL_le h1 a0
 try simp only [List.length_map]
 refine CallK_pure e24 (c24 (x.Class.map encI) (szL left (x.Bytes.length)) g0 u0 (by simpa using kClass)) rfl ?_
 refine evl ?_
 constructor <;> intro h
 ·refine Fin.nt results110 [] ?_ ?_ ?_ <;> try trivial
  (refine rsl ?_; try exact .intro)
  try simp only [List.length_map] at h
  exact szL_bad (szL_at h0 a0 ▸ h) (by omega)
 try simp only [List.length_map] at h
 have a1 : decide (szL left (x.Bytes.length + x.Class.length) < 0) = false := szL_at h0 a0 ▸ h
 refine Fin.nt results110 [] ?_ ?_ ?_ <;> try trivial
 all_goals try ((refine rsl ?_; try exact .intro))
 all_goals try simp only [List.length_map]
 all_goals try exact szL_at h0 a0
theorem c123 (x : Heap) (h : sizHeap x <= 1048576) : Ctr prog 123 [.agg ((encHeap x).map .dat)] [] (.agg [.own 0, .own 1]) [.vec 1 true (x.Bytes.map encI), .vec 1 true (x.Class.map encI)] := by
 simp only [encHeap, List.map_cons, List.map_nil]
 unfold sizHeap at h
 refine Ctr.bd mixed func123 rfl ?_
 refine evl ?_
 refine CallK_pure e30 (c30 x.Bytes (by omega)) rfl ?_
 refine evl ?_
 refine CallK_pure e30 (c30 x.Class (by omega)) rfl ?_
 refine evl ?_
 first | ((refine Fin.nt results123 [3, 4] ?_ ?_ ?_ <;> try trivial) <;> (first | rfl | exact entd); done) | ((refine Fin.nt results123 [2, 3] ?_ ?_ ?_ <;> try trivial) <;> (first | rfl | exact entd); done) | ((refine Fin.nt results123 [1, 2] ?_ ?_ ?_ <;> try trivial) <;> (first | rfl | exact entd); done) | ((refine Fin.nt results123 [0, 1] ?_ ?_ ?_ <;> try trivial) <;> (first | rfl | exact entd); done) | ((refine Fin.nt results123 [4, 5] ?_ ?_ ?_ <;> try trivial) <;> (first | rfl | exact entd); done) | ((refine Fin.nt results123 [5, 6] ?_ ?_ ?_ <;> try trivial) <;> (first | rfl | exact entd); done)
theorem c146 (x y : Heap) (hx : sizHeap x <= 1048576) (hy : sizHeap y <= 1048576) : Ctr prog 146 [.agg ((encHeap x).map .dat), .agg ((encHeap y).map .dat)] [] (.one (.dat (.bool (decide (x = y))))) [] := by
 simp only [encHeap, List.map_cons, List.map_nil]
 unfold sizHeap at hx hy
 have hm : maxLen = 9223372036854775807 := rfl
 refine Ctr.bd mixed func146 rfl ?_
 refine evl ?_
 refine ck e11 (c11 x.Bytes y.Bytes (by omega) (by omega)) rfl ?_
 refine evl ?_
 constructor <;> intro h
 ·refine Fin.nt results146 [] ?_ ?_ ?_ <;> try trivial
  (refine rsl ?_; try exact .intro)
  simp_all [Heap.eq_iff]
 have eBytes := h; clear h
 refine ck e11 (c11 x.Class y.Class (by omega) (by omega)) rfl ?_
 refine evl ?_
 constructor <;> intro h
 ·refine Fin.nt results146 [] ?_ ?_ ?_ <;> try trivial
  (refine rsl ?_; try exact .intro)
  simp_all [Heap.eq_iff]
 have eClass := h; clear h
 refine Fin.nt results146 [] ?_ ?_ ?_ <;> try trivial
 (refine rsl ?_; try exact .intro)
 simp_all [Heap.eq_iff]
structure SList where
 Slots : List Int
 deriving DecidableEq
def encSList (x : SList) : List D := [.sl 1 (x.Slots.map encI)]
def SList.wf (x : SList) : Prop := (∀ y ∈ x.Slots, (Lit.int .i64 y).wf = true) /\ True
theorem SList.eq_iff (x y : SList) : x = y ↔ x.Slots = y.Slots := by cases x; cases y; simp
def SList.lok (x : SList) : Prop := x.Slots.length <= maxLen /\ True
def sizSList (x : SList) : Nat := x.Slots.length
def sizSListS (l : List SList) : Nat := l.length + (l.map sizSList).sum
def zeroSList : SList := ⟨[]⟩
theorem decSList (n : Nat) (ds : List D) (h : WT prog n 250 ds) : ∃ x : SList, ds = encSList x /\ x.wf /\ x.lok := by
 cases n with
 | zero => exact h.elim
 | succ n =>
  unfold WT at h
  rw [underlying250] at h
  simp only [List.toList_toArray, List.map_cons, List.map_nil, WTs] at h
  obtain ⟨_, _, rfl, h0, rfl⟩ := h
  obtain ⟨x0, rfl, c0, w0⟩ := decSl (enc := encI) (q := fun x => (Lit.int .i64 x).wf = true) underlying22 tc_3 (fun _ _ h => decInt underlying3 h) h0
  exact ⟨⟨x0⟩, rfl, ⟨w0, trivial⟩, ⟨c0, trivial⟩⟩
theorem SList.lok_of {x : SList} (h : sizSList x <= 16777216) : x.lok := by
 have hm : maxLen = 9223372036854775807 := rfl
 unfold sizSList at h
 exact ⟨by omega, trivial⟩
theorem lokSListS {l : List SList} (h : sizSListS l <= 16777216) : l.length <= maxLen /\ ∀ y ∈ l, y.lok := by
 have hm : maxLen = 9223372036854775807 := rfl
 unfold sizSListS at h
 exact ⟨by omega, fun y hy => SList.lok_of (by have := sum_mem sizSList hy; omega)⟩
theorem c221 (x : SList) (hk : x.lok) (left : Int) (h0 : 0 <= left) (h1 : left <= 1048576) : Ctr prog 221 [.agg ((encSList x).map .dat), .one (.dat (.int .i64 left))] [] (.one (.dat (.int .i64 (szL left (sizSList x))))) [] := by
 simp only [encSList, List.map_cons, List.map_nil]
 unfold sizSList
 refine Ctr.bd mixed func221 rfl ?_
 refine evl ?_
 obtain ⟨kSlots, _⟩ := hk
 refine CallK_pure e24 (c24 (x.Slots.map encI) left h0 h1 (by simpa using kSlots)) rfl ?_
 refine evl ?_
 constructor <;> intro h
 ·refine Fin.nt results221 [] ?_ ?_ ?_ <;> try trivial
  (refine rsl ?_; try exact .intro)
  try simp only [List.length_map] at h
  exact szL_bad (h) (by omega)
 try simp only [List.length_map] at h
 have a0 : decide (szL left (x.Slots.length) < 0) = false := h
 refine Fin.nt results221 [] ?_ ?_ ?_ <;> try trivial
 all_goals try ((refine rsl ?_; try exact .intro))
 all_goals try simp only [List.length_map]
theorem c229 (x : SList) (h : sizSList x <= 1048576) : Ctr prog 229 [.agg ((encSList x).map .dat)] [] (.agg [.own 0]) [.vec 1 true (x.Slots.map encI)] := by
 simp only [encSList, List.map_cons, List.map_nil]
 unfold sizSList at h
 refine Ctr.bd mixed func229 rfl ?_
 refine evl ?_
 refine CallK_pure e30 (c30 x.Slots (by omega)) rfl ?_
 refine evl ?_
 first | ((refine Fin.nt results229 [3] ?_ ?_ ?_ <;> try trivial) <;> (first | rfl | exact entd); done) | ((refine Fin.nt results229 [2] ?_ ?_ ?_ <;> try trivial) <;> (first | rfl | exact entd); done) | ((refine Fin.nt results229 [1] ?_ ?_ ?_ <;> try trivial) <;> (first | rfl | exact entd); done) | ((refine Fin.nt results229 [0] ?_ ?_ ?_ <;> try trivial) <;> (first | rfl | exact entd); done) | ((refine Fin.nt results229 [4] ?_ ?_ ?_ <;> try trivial) <;> (first | rfl | exact entd); done) | ((refine Fin.nt results229 [5] ?_ ?_ ?_ <;> try trivial) <;> (first | rfl | exact entd); done)
theorem c241 (x y : SList) (hx : sizSList x <= 1048576) (hy : sizSList y <= 1048576) : Ctr prog 241 [.agg ((encSList x).map .dat), .agg ((encSList y).map .dat)] [] (.one (.dat (.bool (decide (x = y))))) [] := by
 simp only [encSList, List.map_cons, List.map_nil]
 unfold sizSList at hx hy
 have hm : maxLen = 9223372036854775807 := rfl
 refine Ctr.bd mixed func241 rfl ?_
 refine evl ?_
 refine ck e11 (c11 x.Slots y.Slots (by omega) (by omega)) rfl ?_
 refine evl ?_
 constructor <;> intro h
 ·refine Fin.nt results241 [] ?_ ?_ ?_ <;> try trivial
  (refine rsl ?_; try exact .intro)
  simp_all [SList.eq_iff]
 have eSlots := h; clear h
 refine Fin.nt results241 [] ?_ ?_ ?_ <;> try trivial
 (refine rsl ?_; try exact .intro)
 simp_all [SList.eq_iff]
theorem c173 (l : List SList) (hl : l.length <= maxLen) (hk : ∀ y ∈ l, y.lok) (left : Int) (h0 : 0 <= left) (h1 : left <= 1048576) : Ctr prog 173 [.one (.dat (.sl 1 (l.map encSList))), .one (.dat (.int .i64 left))] [] (.one (.dat (.int .i64 (szL left (sizSListS l))))) [] := by
 have hw := szL_wrap h0 h1 hl
 unfold sizSListS
 refine Ctr.bd mixed func173 rfl ?_
 refine sv0 ?_
 constructor <;> intro h
 ·refine Fin.nt results173 [] ?_ ?_ ?_ <;> try trivial
  (refine rsl ?_; try exact .intro)
  exact szL_bad (left := left) (a := l.length) (by rw [szL_raw]; exact h) (by omega)
 have a0 : decide (szL left l.length < 0) = false := by rw [szL_raw]; exact h
 have e0 : left - (l.length : Int) = szL left (l.length + ((l.take 0).map sizSList).sum) := by
  have := (szL_le h1 a0).2.1; simp; exact this.symm
 rw [e0]
 refine LoopK_intro (fun n s => ∃ i : Nat, i <= l.length /\ n = l.length - i /\ decide (szL left (l.length + ((l.take i).map sizSList).sum) < 0) = false /\ s = mkSt [(5, .one (.dat (.int .i64 i))), (1, .one (.dat (.int .i64 (szL left (l.length + ((l.take i).map sizSList).sum))))), (0, .one (.dat (.sl 1 (l.map encSList))))] []) l.length _
  (Ent.wk []) ⟨0, by omega, by omega, by simpa using a0, rfl⟩ ?_
 rintro n s ⟨i, hi, rfl, ht, rfl⟩ K hK
 rcases Nat.lt_or_ge i l.length with hlt | hge
 ·have hdi : decide ((i : Int) < l.length) = true := by simpa using hlt
  have hwi := wrap_succ hlt hl
  have hs := sum_take_succ sizSList hlt
  have hs2 := sum_take_le sizSList l (i + 1)
  obtain ⟨_, _, g, u⟩ := szL_le h1 ht
  simp (maxSteps := 2000000) only [go_sem, seval, hdi, hwi, getD_map hlt, encSList]
  refine ⟨⟨by omega, by omega⟩, hlt, ?_⟩
  refine CallK_pure e221 (c221 l[i] (hk _ (List.getElem_mem hlt)) _ g u) rfl ?_
  refine sv4 ?_
  rw [Nat.add_assoc, <- hs]
  constructor <;> intro h
  ·apply hK
   refine evl ?_
   refine Fin.nt results173 [] ?_ ?_ ?_ <;> try trivial
   (refine rsl ?_; try exact .intro)
   exact szL_bad h (by omega)
  ·apply hK
   exact ⟨l.length - (i + 1), _, by omega, Ent.wk [], i + 1, by omega, rfl, h, rfl⟩
 ·have hge' : i = l.length := by omega
  subst hge'
  have hdi : decide ((l.length : Int) < l.length) = false := by simp
  refine sv3 ?_
  apply hK
  refine evl ?_
  refine Fin.nt results173 [] ?_ ?_ ?_ <;> try trivial
  all_goals try ((refine rsl ?_; try exact .intro))
  all_goals simp
theorem c184 (l : List SList) (h : sizSListS l <= 1048576) : Ctr prog 184 [.one (.dat (.sl 1 (l.map encSList)))] [] (.one (.own 0)) [.vec 1 true (l.map encSList)] := by
 have hl : l.length <= 1048576 := by unfold sizSListS at h; omega
 refine Ctr.bd mixed func184 rfl ?_
 refine evl ?_
 refine ⟨by omega, ?_⟩
 refine LoopK_intro (fun n s => ∃ i : Nat, i <= l.length /\ n = l.length - i /\ s = mkSt [(4, .one (.dat (.int .i64 i))), (3, .one (.own 0)), (0, .one (.dat (.sl 1 (l.map encSList))))]
   [.vec 1 true ((l.take i).map encSList ++ List.replicate (l.length - i) [.sl 1 []])]) l.length _
  (Ent.wk [0]) ⟨0, by omega, by omega, rfl⟩ ?_
 rintro n s ⟨i, hi, rfl, rfl⟩ K hK
 rcases Nat.lt_or_ge i l.length with hlt | hge
 ·have hdi : decide ((i : Int) < l.length) = true := by simpa using hlt
  simp (maxSteps := 2000000) only [go_sem, seval, hdi, getD_map hlt, encSList, D.flat, wrap_succ hlt (le20 hl)]
  first | refine ⟨⟨by omega, by omega⟩, hlt, ?_⟩ | refine ⟨by omega, hlt, ?_⟩
  refine CallK_pure e229 (c229 l[i] (by have := sum_get sizSList hlt; unfold sizSListS at h; omega)) rfl ?_
  simp (maxSteps := 2000000) only [go_sem, seval, encSList, D.flat, wrap_succ hlt (le20 hl)]
  repeat' ((with_reducible show _ /\ _); apply And.intro)
  all_goals first
   | (apply hK
      refine ⟨l.length - (i + 1), _, by omega, Ent.weak (ids := [0]) (by simp) rfl (by simp) ?_ ?_ ?_, i + 1, by omega, rfl, rfl⟩
      ·simp only [objsLe, St.obj, find, AObj.renF, if_true, Option.getD_some, List.getD_cons_zero, and_true]
       rw [<- take_set encSList l _ hlt]
       exact ⟨by simp, Or.inr rfl⟩
      ·simp [objsLe, envLe, find, St.obj, AObj.renF, AV.renF, AV.renF1, Leaf.renF, LowAll, AV.Low, AV.Low1, Leaf.Low, AObj.Low, Ptr.renF, Ptr.Low]
      ·simp [objsLe, envLe, find, St.obj, AObj.renF, AV.renF, AV.renF1, Leaf.renF, LowAll, AV.Low, AV.Low1, Leaf.Low, AObj.Low, Ptr.renF, Ptr.Low])
   | omega
   | decide
   | (simp; done)
   | (simp; omega)
   | trivial
 ·have hge' : i = l.length := by omega
  subst hge'
  have hdi : decide ((l.length : Int) < l.length) = false := by simp
  refine sv3 ?_
  apply hK
  refine evl ?_
  refine Fin.nt results184 [0] ?_ ?_ ?_ <;> try trivial
  all_goals simp [objsLe, St.obj, find, AObj.renF]
theorem c199 (l l' : List SList) (h0 : sizSListS l <= 1048576) (h0' : sizSListS l' <= 1048576) : Ctr prog 199 [.one (.dat (.sl 1 (l.map encSList))), .one (.dat (.sl 1 (l'.map encSList)))] [] (.one (.dat (.bool (decide (l = l'))))) [] := by
 have hl : l.length <= maxLen := (lokSListS (by omega)).1
 have hl' : l'.length <= maxLen := (lokSListS (by omega)).1
 refine Ctr.bd mixed func199 rfl ?_
 refine evl ?_
 constructor <;> intro h
 ·have hne : l.length ≠ l'.length := by simp at h; omega
  refine Fin.nt results199 [] ?_ ?_ ?_ <;> try trivial
  (refine rsl ?_; try exact .intro)
  symm; rw [decide_eq_false_iff_not]
  intro e; exact hne (by rw [e])
 have hlen : l.length = l'.length := by simp at h; omega
 refine LoopK_intro (fun n s => ∃ i : Nat, i <= l.length /\ n = l.length - i /\ l.take i = l'.take i /\ s = mkSt [(5, .one (.dat (.int .i64 i))), (1, .one (.dat (.sl 1 (l'.map encSList)))), (0, .one (.dat (.sl 1 (l.map encSList))))] []) l.length _
  (Ent.wk []) ⟨0, by omega, by omega, rfl, rfl⟩ ?_
 rintro n s ⟨i, hi, rfl, ht, rfl⟩ K hK
 rcases Nat.lt_or_ge i l.length with hlt | hge
 ·have hdi : decide ((i : Int) < l.length) = true := by simpa using hlt
  have hlt' : i < l'.length := by omega
  simp (maxSteps := 2000000) only [go_sem, seval, hdi, wrap_succ hlt hl, getD_map hlt, getD_map hlt', encSList]
  refine ⟨⟨by omega, by omega⟩, hlt, ⟨by omega, by omega⟩, hlt', ?_⟩
  first
   | refine CCallK_intro e241 (fun _ => ⟨trivial, c241 l[i] l'[i] (by have := sum_get sizSList hlt; unfold sizSListS at h0; omega) (by have := sum_get sizSList hlt'; unfold sizSListS at h0'; omega)⟩) rfl rfl ?_
   | refine Or.inl (CCallK_intro e241 (fun _ => ⟨trivial, c241 l[i] l'[i] (by have := sum_get sizSList hlt; unfold sizSListS at h0; omega) (by have := sum_get sizSList hlt'; unfold sizSListS at h0'; omega)⟩) rfl rfl ?_)
  refine sv1 ?_
  constructor <;> intro h
  ·apply hK
   refine evl ?_
   refine Fin.nt results199 [] ?_ ?_ ?_ <;> try trivial
   (refine rsl ?_; try exact .intro)
   symm; rw [decide_eq_false_iff_not]
   rintro rfl; simp at h
  ·apply hK
   have he : l[i] = l'[i] := by simpa using h
   exact ⟨l.length - (i + 1), _, by omega, Ent.wk [], i + 1, by omega, rfl, by rw [List.take_succ_eq_append_getElem hlt, List.take_succ_eq_append_getElem hlt', ht, he], rfl⟩
 ·have hge' : i = l.length := by omega
  subst hge'
  have hdi : decide ((l.length : Int) < l.length) = false := by simp
  refine sv3 ?_
  apply hK
  refine evl ?_
  refine Fin.nt results199 [] ?_ ?_ ?_ <;> try trivial
  (refine rsl ?_; try exact .intro)
  symm; rw [decide_eq_true_iff]
  rw [List.take_of_length_le (Nat.le_refl _), List.take_of_length_le (by omega)] at ht
  exact ht
structure Lists where
 Global : List SList
 Own : List SList
 deriving DecidableEq
def encLists (x : Lists) : List D := [.sl 1 (x.Global.map encSList), .sl 1 (x.Own.map encSList)]
def Lists.wf (x : Lists) : Prop := (∀ y ∈ x.Global, y.wf) /\ (∀ y ∈ x.Own, y.wf) /\ True
theorem Lists.eq_iff (x y : Lists) : x = y ↔ x.Global = y.Global /\ x.Own = y.Own := by cases x; cases y; simp
def Lists.lok (x : Lists) : Prop := x.Global.length <= maxLen /\ (∀ y ∈ x.Global, y.lok) /\ x.Own.length <= maxLen /\ (∀ y ∈ x.Own, y.lok) /\ True
def sizLists (x : Lists) : Nat := sizSListS x.Global + sizSListS x.Own
def sizListsS (l : List Lists) : Nat := l.length + (l.map sizLists).sum
def zeroLists : Lists := ⟨[], []⟩
theorem decLists (n : Nat) (ds : List D) (h : WT prog n 27 ds) : ∃ x : Lists, ds = encLists x /\ x.wf /\ x.lok := by
 cases n with
 | zero => exact h.elim
 | succ n =>
  unfold WT at h
  rw [underlying27] at h
  simp only [List.toList_toArray, List.map_cons, List.map_nil, WTs] at h
  obtain ⟨_, _, rfl, h0, ⟨_, _, rfl, h1, rfl⟩⟩ := h
  obtain ⟨x0, rfl, c0, w0⟩ := decSl (enc := encSList) (q := fun x => x.wf /\ x.lok) underlying25 tc_250 decSList h0
  obtain ⟨x1, rfl, c1, w1⟩ := decSl (enc := encSList) (q := fun x => x.wf /\ x.lok) underlying25 tc_250 decSList h1
  exact ⟨⟨x0, x1⟩, rfl, ⟨fun y hy => (w0 y hy).1, fun y hy => (w1 y hy).1, trivial⟩, ⟨c0, fun y hy => (w0 y hy).2, c1, fun y hy => (w1 y hy).2, trivial⟩⟩
theorem Lists.lok_of {x : Lists} (h : sizLists x <= 16777216) : x.lok := by
 have hm : maxLen = 9223372036854775807 := rfl
 unfold sizLists at h
 unfold sizSListS at h
 exact ⟨by omega, fun y hy => SList.lok_of (by have := sum_mem sizSList hy; omega), by omega, fun y hy => SList.lok_of (by have := sum_mem sizSList hy; omega), trivial⟩
theorem lokListsS {l : List Lists} (h : sizListsS l <= 16777216) : l.length <= maxLen /\ ∀ y ∈ l, y.lok := by
 have hm : maxLen = 9223372036854775807 := rfl
 unfold sizListsS at h
 exact ⟨by omega, fun y hy => Lists.lok_of (by have := sum_mem sizLists hy; omega)⟩
theorem c111 (x : Lists) (hk : x.lok) (left : Int) (h0 : 0 <= left) (h1 : left <= 1048576) : Ctr prog 111 [.agg ((encLists x).map .dat), .one (.dat (.int .i64 left))] [] (.one (.dat (.int .i64 (szL left (sizLists x))))) [] := by
 simp only [encLists, List.map_cons, List.map_nil]
 unfold sizLists
 refine Ctr.bd mixed func111 rfl ?_
 refine evl ?_
 obtain ⟨kGlobal, qGlobal, kOwn, qOwn, _⟩ := hk
 refine CallK_pure e173 (c173 x.Global kGlobal qGlobal left h0 h1) rfl ?_
 refine evl ?_
 constructor <;> intro h
 ·refine Fin.nt results111 [] ?_ ?_ ?_ <;> try trivial
  (refine rsl ?_; try exact .intro)
  try simp only [List.length_map] at h
  exact szL_bad (h) (by omega)
 try simp only [List.length_map] at h
 have a0 : decide (szL left (sizSListS x.Global) < 0) = false := h
 obtain ⟨_, _, g0, u0⟩ := szL_le h1 a0
 try simp only [List.length_map]
 refine CallK_pure e173 (c173 x.Own kOwn qOwn (szL left (sizSListS x.Global)) g0 u0) rfl ?_
 refine evl ?_
 constructor <;> intro h
 ·refine Fin.nt results111 [] ?_ ?_ ?_ <;> try trivial
  (refine rsl ?_; try exact .intro)
  try simp only [List.length_map] at h
  exact szL_bad (szL_at h0 a0 ▸ h) (by omega)
 try simp only [List.length_map] at h
 have a1 : decide (szL left (sizSListS x.Global + sizSListS x.Own) < 0) = false := szL_at h0 a0 ▸ h
 refine Fin.nt results111 [] ?_ ?_ ?_ <;> try trivial
 all_goals try ((refine rsl ?_; try exact .intro))
 all_goals try simp only [List.length_map]
 all_goals try exact szL_at h0 a0
theorem c124 (x : Lists) (h : sizLists x <= 1048576) : Ctr prog 124 [.agg ((encLists x).map .dat)] [] (.agg [.own 0, .own 1]) [.vec 1 true (x.Global.map encSList), .vec 1 true (x.Own.map encSList)] := by
 simp only [encLists, List.map_cons, List.map_nil]
 unfold sizLists at h
 refine Ctr.bd mixed func124 rfl ?_
 refine evl ?_
 refine CallK_pure e184 (c184 x.Global (by omega)) rfl ?_
 refine evl ?_
 refine CallK_pure e184 (c184 x.Own (by omega)) rfl ?_
 refine evl ?_
 first | ((refine Fin.nt results124 [3, 4] ?_ ?_ ?_ <;> try trivial) <;> (first | rfl | exact entd); done) | ((refine Fin.nt results124 [2, 3] ?_ ?_ ?_ <;> try trivial) <;> (first | rfl | exact entd); done) | ((refine Fin.nt results124 [1, 2] ?_ ?_ ?_ <;> try trivial) <;> (first | rfl | exact entd); done) | ((refine Fin.nt results124 [0, 1] ?_ ?_ ?_ <;> try trivial) <;> (first | rfl | exact entd); done) | ((refine Fin.nt results124 [4, 5] ?_ ?_ ?_ <;> try trivial) <;> (first | rfl | exact entd); done) | ((refine Fin.nt results124 [5, 6] ?_ ?_ ?_ <;> try trivial) <;> (first | rfl | exact entd); done)
theorem c147 (x y : Lists) (hx : sizLists x <= 1048576) (hy : sizLists y <= 1048576) : Ctr prog 147 [.agg ((encLists x).map .dat), .agg ((encLists y).map .dat)] [] (.one (.dat (.bool (decide (x = y))))) [] := by
 simp only [encLists, List.map_cons, List.map_nil]
 unfold sizLists at hx hy
 have hm : maxLen = 9223372036854775807 := rfl
 refine Ctr.bd mixed func147 rfl ?_
 refine evl ?_
 refine ck e199 (c199 x.Global y.Global (by omega) (by omega)) rfl ?_
 refine evl ?_
 constructor <;> intro h
 ·refine Fin.nt results147 [] ?_ ?_ ?_ <;> try trivial
  (refine rsl ?_; try exact .intro)
  simp_all [Lists.eq_iff]
 have eGlobal := h; clear h
 refine ck e199 (c199 x.Own y.Own (by omega) (by omega)) rfl ?_
 refine evl ?_
 constructor <;> intro h
 ·refine Fin.nt results147 [] ?_ ?_ ?_ <;> try trivial
  (refine rsl ?_; try exact .intro)
  simp_all [Lists.eq_iff]
 have eOwn := h; clear h
 refine Fin.nt results147 [] ?_ ?_ ?_ <;> try trivial
 (refine rsl ?_; try exact .intro)
 simp_all [Lists.eq_iff]
structure Mem where
 Heap : Heap
 Lists : Lists
 deriving DecidableEq
def encMem (x : Mem) : List D := [.sl 1 (x.Heap.Bytes.map encI), .sl 1 (x.Heap.Class.map encI), .sl 1 (x.Lists.Global.map encSList), .sl 1 (x.Lists.Own.map encSList)]
def Mem.wf (x : Mem) : Prop := x.Heap.wf /\ x.Lists.wf /\ True
theorem Mem.eq_iff (x y : Mem) : x = y ↔ x.Heap = y.Heap /\ x.Lists = y.Lists := by cases x; cases y; simp
def Mem.lok (x : Mem) : Prop := x.Heap.lok /\ x.Lists.lok /\ True
def sizMem (x : Mem) : Nat := sizHeap x.Heap + sizLists x.Lists
def sizMemS (l : List Mem) : Nat := l.length + (l.map sizMem).sum
def zeroMem : Mem := ⟨zeroHeap, zeroLists⟩
theorem decMem (n : Nat) (ds : List D) (h : WT prog n 29 ds) : ∃ x : Mem, ds = encMem x /\ x.wf /\ x.lok := by
 cases n with
 | zero => exact h.elim
 | succ n =>
  unfold WT at h
  rw [underlying29] at h
  simp only [List.toList_toArray, List.map_cons, List.map_nil, WTs] at h
  obtain ⟨_, _, rfl, h0, ⟨_, _, rfl, h1, rfl⟩⟩ := h
  obtain ⟨x0, rfl, w0, k0⟩ := decHeap _ _ h0
  obtain ⟨x1, rfl, w1, k1⟩ := decLists _ _ h1
  exact ⟨⟨x0, x1⟩, rfl, ⟨w0, w1, trivial⟩, ⟨k0, k1, trivial⟩⟩
theorem Mem.lok_of {x : Mem} (h : sizMem x <= 16777216) : x.lok := by
 have hm : maxLen = 9223372036854775807 := rfl
 unfold sizMem at h
 exact ⟨Heap.lok_of (by omega), Lists.lok_of (by omega), trivial⟩
theorem lokMemS {l : List Mem} (h : sizMemS l <= 16777216) : l.length <= maxLen /\ ∀ y ∈ l, y.lok := by
 have hm : maxLen = 9223372036854775807 := rfl
 unfold sizMemS at h
 exact ⟨by omega, fun y hy => Mem.lok_of (by have := sum_mem sizMem hy; omega)⟩
theorem c59 (x : Mem) (hk : x.lok) (left : Int) (h0 : 0 <= left) (h1 : left <= 1048576) : Ctr prog 59 [.agg ((encMem x).map .dat), .one (.dat (.int .i64 left))] [] (.one (.dat (.int .i64 (szL left (sizMem x))))) [] := by
 simp only [encMem, List.map_cons, List.map_nil]
 unfold sizMem
 refine Ctr.bd mixed func59 rfl ?_
 refine evl ?_
 obtain ⟨kHeap, kLists, _⟩ := hk
 refine CallK_pure e110 (c110 x.Heap kHeap left h0 h1) rfl ?_
 refine evl ?_
 constructor <;> intro h
 ·refine Fin.nt results59 [] ?_ ?_ ?_ <;> try trivial
  (refine rsl ?_; try exact .intro)
  try simp only [List.length_map] at h
  exact szL_bad (h) (by omega)
 try simp only [List.length_map] at h
 have a0 : decide (szL left (sizHeap x.Heap) < 0) = false := h
 obtain ⟨_, _, g0, u0⟩ := szL_le h1 a0
 try simp only [List.length_map]
 refine CallK_pure e111 (c111 x.Lists kLists (szL left (sizHeap x.Heap)) g0 u0) rfl ?_
 refine evl ?_
 constructor <;> intro h
 ·refine Fin.nt results59 [] ?_ ?_ ?_ <;> try trivial
  (refine rsl ?_; try exact .intro)
  try simp only [List.length_map] at h
  exact szL_bad (szL_at h0 a0 ▸ h) (by omega)
 try simp only [List.length_map] at h
 have a1 : decide (szL left (sizHeap x.Heap + sizLists x.Lists) < 0) = false := szL_at h0 a0 ▸ h
 refine Fin.nt results59 [] ?_ ?_ ?_ <;> try trivial
 all_goals try ((refine rsl ?_; try exact .intro))
 all_goals try simp only [List.length_map]
 all_goals try exact szL_at h0 a0
theorem c67 (x : Mem) (h : sizMem x <= 1048576) : Ctr prog 67 [.agg ((encMem x).map .dat)] [] (.agg [.own 0, .own 1, .own 2, .own 3]) [.vec 1 true (x.Heap.Bytes.map encI), .vec 1 true (x.Heap.Class.map encI), .vec 1 true (x.Lists.Global.map encSList), .vec 1 true (x.Lists.Own.map encSList)] := by
 simp only [encMem, List.map_cons, List.map_nil]
 unfold sizMem at h
 refine Ctr.bd mixed func67 rfl ?_
 refine evl ?_
 refine CallK_pure e123 (c123 x.Heap (by omega)) rfl ?_
 refine evl ?_
 refine CallK_pure e124 (c124 x.Lists (by omega)) rfl ?_
 refine evl ?_
 first | ((refine Fin.nt results67 [3, 4, 5, 6] ?_ ?_ ?_ <;> try trivial) <;> (first | rfl | exact entd); done) | ((refine Fin.nt results67 [2, 3, 4, 5] ?_ ?_ ?_ <;> try trivial) <;> (first | rfl | exact entd); done) | ((refine Fin.nt results67 [1, 2, 3, 4] ?_ ?_ ?_ <;> try trivial) <;> (first | rfl | exact entd); done) | ((refine Fin.nt results67 [0, 1, 2, 3] ?_ ?_ ?_ <;> try trivial) <;> (first | rfl | exact entd); done) | ((refine Fin.nt results67 [4, 5, 6, 7] ?_ ?_ ?_ <;> try trivial) <;> (first | rfl | exact entd); done) | ((refine Fin.nt results67 [5, 6, 7, 8] ?_ ?_ ?_ <;> try trivial) <;> (first | rfl | exact entd); done)
theorem c81 (x y : Mem) (hx : sizMem x <= 1048576) (hy : sizMem y <= 1048576) : Ctr prog 81 [.agg ((encMem x).map .dat), .agg ((encMem y).map .dat)] [] (.one (.dat (.bool (decide (x = y))))) [] := by
 simp only [encMem, List.map_cons, List.map_nil]
 unfold sizMem at hx hy
 have hm : maxLen = 9223372036854775807 := rfl
 refine Ctr.bd mixed func81 rfl ?_
 refine evl ?_
 refine ck e146 (c146 x.Heap y.Heap (by omega) (by omega)) rfl ?_
 refine evl ?_
 constructor <;> intro h
 ·refine Fin.nt results81 [] ?_ ?_ ?_ <;> try trivial
  (refine rsl ?_; try exact .intro)
  simp_all [Mem.eq_iff]
 have eHeap := h; clear h
 refine ck e147 (c147 x.Lists y.Lists (by omega) (by omega)) rfl ?_
 refine evl ?_
 constructor <;> intro h
 ·refine Fin.nt results81 [] ?_ ?_ ?_ <;> try trivial
  (refine rsl ?_; try exact .intro)
  simp_all [Mem.eq_iff]
 have eLists := h; clear h
 refine Fin.nt results81 [] ?_ ?_ ?_ <;> try trivial
 (refine rsl ?_; try exact .intro)
 simp_all [Mem.eq_iff]
def Pin.lok (x : Pin) : Prop := True
def zeroPin : Pin := ⟨false, 0, false, 0⟩
theorem decPin (n : Nat) (ds : List D) (h : WT prog n 220 ds) : ∃ x : Pin, ds = encPin x /\ x.wf /\ x.lok := by
 cases n with
 | zero => exact h.elim
 | succ n =>
  unfold WT at h
  rw [underlying220] at h
  simp only [List.toList_toArray, List.map_cons, List.map_nil, WTs] at h
  obtain ⟨_, _, rfl, h0, ⟨_, _, rfl, h1, ⟨_, _, rfl, h2, ⟨_, _, rfl, h3, rfl⟩⟩⟩⟩ := h
  obtain ⟨x0, rfl⟩ := decBool underlying4 h0
  obtain ⟨x1, rfl, w1⟩ := decInt underlying3 h1
  obtain ⟨x2, rfl⟩ := decBool underlying4 h2
  obtain ⟨x3, rfl, w3⟩ := decInt underlying3 h3
  exact ⟨⟨x0, x1, x2, x3⟩, rfl, ⟨w1, w3, trivial⟩, trivial⟩
structure Clock where
 Epoch : Int
 Pins : List Pin
 deriving DecidableEq
def encClock (x : Clock) : List D := [.int .i64 x.Epoch, .sl 4 (x.Pins.map encPin)]
def Clock.wf (x : Clock) : Prop := (Lit.int .i64 x.Epoch).wf = true /\ (∀ y ∈ x.Pins, y.wf) /\ True
theorem Clock.eq_iff (x y : Clock) : x = y ↔ x.Epoch = y.Epoch /\ x.Pins = y.Pins := by cases x; cases y; simp
def Clock.lok (x : Clock) : Prop := x.Pins.length <= maxLen /\ True
def sizClock (x : Clock) : Nat := x.Pins.length
def sizClockS (l : List Clock) : Nat := l.length + (l.map sizClock).sum
def zeroClock : Clock := ⟨0, []⟩
theorem decClock (n : Nat) (ds : List D) (h : WT prog n 32 ds) : ∃ x : Clock, ds = encClock x /\ x.wf /\ x.lok := by
 cases n with
 | zero => exact h.elim
 | succ n =>
  unfold WT at h
  rw [underlying32] at h
  simp only [List.toList_toArray, List.map_cons, List.map_nil, WTs] at h
  obtain ⟨_, _, rfl, h0, ⟨_, _, rfl, h1, rfl⟩⟩ := h
  obtain ⟨x0, rfl, w0⟩ := decInt underlying3 h0
  obtain ⟨x1, rfl, c1, w1⟩ := decSl (enc := encPin) (q := fun x => x.wf /\ x.lok) underlying30 tc_220 decPin h1
  exact ⟨⟨x0, x1⟩, rfl, ⟨w0, fun y hy => (w1 y hy).1, trivial⟩, ⟨c1, trivial⟩⟩
theorem Clock.lok_of {x : Clock} (h : sizClock x <= 16777216) : x.lok := by
 have hm : maxLen = 9223372036854775807 := rfl
 unfold sizClock at h
 exact ⟨by omega, trivial⟩
theorem lokClockS {l : List Clock} (h : sizClockS l <= 16777216) : l.length <= maxLen /\ ∀ y ∈ l, y.lok := by
 have hm : maxLen = 9223372036854775807 := rfl
 unfold sizClockS at h
 exact ⟨by omega, fun y hy => Clock.lok_of (by have := sum_mem sizClock hy; omega)⟩
theorem c60 (x : Clock) (hk : x.lok) (left : Int) (h0 : 0 <= left) (h1 : left <= 1048576) : Ctr prog 60 [.agg ((encClock x).map .dat), .one (.dat (.int .i64 left))] [] (.one (.dat (.int .i64 (szL left (sizClock x))))) [] := by
 simp only [encClock, List.map_cons, List.map_nil]
 unfold sizClock
 refine Ctr.bd mixed func60 rfl ?_
 refine evl ?_
 obtain ⟨kPins, _⟩ := hk
 refine CallK_pure e112 (c112 (x.Pins.map encPin) left h0 h1 (by simpa using kPins)) rfl ?_
 refine evl ?_
 constructor <;> intro h
 ·refine Fin.nt results60 [] ?_ ?_ ?_ <;> try trivial
  (refine rsl ?_; try exact .intro)
  try simp only [List.length_map] at h
  exact szL_bad (h) (by omega)
 try simp only [List.length_map] at h
 have a0 : decide (szL left (x.Pins.length) < 0) = false := h
 refine Fin.nt results60 [] ?_ ?_ ?_ <;> try trivial
 all_goals try ((refine rsl ?_; try exact .intro))
 all_goals try simp only [List.length_map]
theorem c68 (x : Clock) (h : sizClock x <= 1048576) : Ctr prog 68 [.agg ((encClock x).map .dat)] [] (.agg [.dat (.int .i64 x.Epoch), .own 0]) [.vec 4 true (x.Pins.map encPin)] := by
 simp only [encClock, List.map_cons, List.map_nil]
 unfold sizClock at h
 refine Ctr.bd mixed func68 rfl ?_
 refine evl ?_
 refine CallK_pure e125 (c125 x.Pins (by omega)) rfl ?_
 refine evl ?_
 first | ((refine Fin.nt results68 [3] ?_ ?_ ?_ <;> try trivial) <;> (first | rfl | exact entd); done) | ((refine Fin.nt results68 [2] ?_ ?_ ?_ <;> try trivial) <;> (first | rfl | exact entd); done) | ((refine Fin.nt results68 [1] ?_ ?_ ?_ <;> try trivial) <;> (first | rfl | exact entd); done) | ((refine Fin.nt results68 [0] ?_ ?_ ?_ <;> try trivial) <;> (first | rfl | exact entd); done) | ((refine Fin.nt results68 [4] ?_ ?_ ?_ <;> try trivial) <;> (first | rfl | exact entd); done) | ((refine Fin.nt results68 [5] ?_ ?_ ?_ <;> try trivial) <;> (first | rfl | exact entd); done)
theorem c82 (x y : Clock) (hx : sizClock x <= 1048576) (hy : sizClock y <= 1048576) : Ctr prog 82 [.agg ((encClock x).map .dat), .agg ((encClock y).map .dat)] [] (.one (.dat (.bool (decide (x = y))))) [] := by
 simp only [encClock, List.map_cons, List.map_nil]
 unfold sizClock at hx hy
 have hm : maxLen = 9223372036854775807 := rfl
 refine Ctr.bd mixed func82 rfl ?_
 refine evl ?_
 constructor <;> intro h
 ·refine Fin.nt results82 [] ?_ ?_ ?_ <;> try trivial
  (refine rsl ?_; try exact .intro)
  simp_all [Clock.eq_iff]
 have eEpoch := h; clear h
 refine ck e148 (c148 x.Pins y.Pins (by omega) (by omega)) rfl ?_
 refine evl ?_
 constructor <;> intro h
 ·refine Fin.nt results82 [] ?_ ?_ ?_ <;> try trivial
  (refine rsl ?_; try exact .intro)
  simp_all [Clock.eq_iff]
 have ePins := h; clear h
 refine Fin.nt results82 [] ?_ ?_ ?_ <;> try trivial
 (refine rsl ?_; try exact .intro)
 simp_all [Clock.eq_iff]
def LRow.lok (x : LRow) : Prop := True
def zeroLRow : LRow := ⟨0, 0⟩
theorem decLRow (n : Nat) (ds : List D) (h : WT prog n 257 ds) : ∃ x : LRow, ds = encLRow x /\ x.wf /\ x.lok := by
 cases n with
 | zero => exact h.elim
 | succ n =>
  unfold WT at h
  rw [underlying257] at h
  simp only [List.toList_toArray, List.map_cons, List.map_nil, WTs] at h
  obtain ⟨_, _, rfl, h0, ⟨_, _, rfl, h1, rfl⟩⟩ := h
  obtain ⟨x0, rfl, w0⟩ := decInt underlying3 h0
  obtain ⟨x1, rfl, w1⟩ := decInt underlying3 h1
  exact ⟨⟨x0, x1⟩, rfl, ⟨w0, w1, trivial⟩, trivial⟩
structure LList where
 Rows : List LRow
 deriving DecidableEq
def encLList (x : LList) : List D := [.sl 2 (x.Rows.map encLRow)]
def LList.wf (x : LList) : Prop := (∀ y ∈ x.Rows, y.wf) /\ True
theorem LList.eq_iff (x y : LList) : x = y ↔ x.Rows = y.Rows := by cases x; cases y; simp
def LList.lok (x : LList) : Prop := x.Rows.length <= maxLen /\ True
def sizLList (x : LList) : Nat := x.Rows.length
def sizLListS (l : List LList) : Nat := l.length + (l.map sizLList).sum
def zeroLList : LList := ⟨[]⟩
theorem decLList (n : Nat) (ds : List D) (h : WT prog n 157 ds) : ∃ x : LList, ds = encLList x /\ x.wf /\ x.lok := by
 cases n with
 | zero => exact h.elim
 | succ n =>
  unfold WT at h
  rw [underlying157] at h
  simp only [List.toList_toArray, List.map_cons, List.map_nil, WTs] at h
  obtain ⟨_, _, rfl, h0, rfl⟩ := h
  obtain ⟨x0, rfl, c0, w0⟩ := decSl (enc := encLRow) (q := fun x => x.wf /\ x.lok) underlying155 tc_257 decLRow h0
  exact ⟨⟨x0⟩, rfl, ⟨fun y hy => (w0 y hy).1, trivial⟩, ⟨c0, trivial⟩⟩
theorem LList.lok_of {x : LList} (h : sizLList x <= 16777216) : x.lok := by
 have hm : maxLen = 9223372036854775807 := rfl
 unfold sizLList at h
 exact ⟨by omega, trivial⟩
theorem lokLListS {l : List LList} (h : sizLListS l <= 16777216) : l.length <= maxLen /\ ∀ y ∈ l, y.lok := by
 have hm : maxLen = 9223372036854775807 := rfl
 unfold sizLListS at h
 exact ⟨by omega, fun y hy => LList.lok_of (by have := sum_mem sizLList hy; omega)⟩
theorem c113 (x : LList) (hk : x.lok) (left : Int) (h0 : 0 <= left) (h1 : left <= 1048576) : Ctr prog 113 [.agg ((encLList x).map .dat), .one (.dat (.int .i64 left))] [] (.one (.dat (.int .i64 (szL left (sizLList x))))) [] := by
 simp only [encLList, List.map_cons, List.map_nil]
 unfold sizLList
 refine Ctr.bd mixed func113 rfl ?_
 refine evl ?_
 obtain ⟨kRows, _⟩ := hk
 refine CallK_pure e174 (c174 (x.Rows.map encLRow) left h0 h1 (by simpa using kRows)) rfl ?_
 refine evl ?_
 constructor <;> intro h
 ·refine Fin.nt results113 [] ?_ ?_ ?_ <;> try trivial
  (refine rsl ?_; try exact .intro)
  try simp only [List.length_map] at h
  exact szL_bad (h) (by omega)
 try simp only [List.length_map] at h
 have a0 : decide (szL left (x.Rows.length) < 0) = false := h
 refine Fin.nt results113 [] ?_ ?_ ?_ <;> try trivial
 all_goals try ((refine rsl ?_; try exact .intro))
 all_goals try simp only [List.length_map]
theorem c126 (x : LList) (h : sizLList x <= 1048576) : Ctr prog 126 [.agg ((encLList x).map .dat)] [] (.agg [.own 0]) [.vec 2 true (x.Rows.map encLRow)] := by
 simp only [encLList, List.map_cons, List.map_nil]
 unfold sizLList at h
 refine Ctr.bd mixed func126 rfl ?_
 refine evl ?_
 refine CallK_pure e186 (c186 x.Rows (by omega)) rfl ?_
 refine evl ?_
 first | ((refine Fin.nt results126 [3] ?_ ?_ ?_ <;> try trivial) <;> (first | rfl | exact entd); done) | ((refine Fin.nt results126 [2] ?_ ?_ ?_ <;> try trivial) <;> (first | rfl | exact entd); done) | ((refine Fin.nt results126 [1] ?_ ?_ ?_ <;> try trivial) <;> (first | rfl | exact entd); done) | ((refine Fin.nt results126 [0] ?_ ?_ ?_ <;> try trivial) <;> (first | rfl | exact entd); done) | ((refine Fin.nt results126 [4] ?_ ?_ ?_ <;> try trivial) <;> (first | rfl | exact entd); done) | ((refine Fin.nt results126 [5] ?_ ?_ ?_ <;> try trivial) <;> (first | rfl | exact entd); done)
theorem c149 (x y : LList) (hx : sizLList x <= 1048576) (hy : sizLList y <= 1048576) : Ctr prog 149 [.agg ((encLList x).map .dat), .agg ((encLList y).map .dat)] [] (.one (.dat (.bool (decide (x = y))))) [] := by
 simp only [encLList, List.map_cons, List.map_nil]
 unfold sizLList at hx hy
 have hm : maxLen = 9223372036854775807 := rfl
 refine Ctr.bd mixed func149 rfl ?_
 refine evl ?_
 refine ck e201 (c201 x.Rows y.Rows (by omega) (by omega)) rfl ?_
 refine evl ?_
 constructor <;> intro h
 ·refine Fin.nt results149 [] ?_ ?_ ?_ <;> try trivial
  (refine rsl ?_; try exact .intro)
  simp_all [LList.eq_iff]
 have eRows := h; clear h
 refine Fin.nt results149 [] ?_ ?_ ?_ <;> try trivial
 (refine rsl ?_; try exact .intro)
 simp_all [LList.eq_iff]
theorem c61 (l : List LList) (hl : l.length <= maxLen) (hk : ∀ y ∈ l, y.lok) (left : Int) (h0 : 0 <= left) (h1 : left <= 1048576) : Ctr prog 61 [.one (.dat (.sl 1 (l.map encLList))), .one (.dat (.int .i64 left))] [] (.one (.dat (.int .i64 (szL left (sizLListS l))))) [] := by
 have hw := szL_wrap h0 h1 hl
 unfold sizLListS
 refine Ctr.bd mixed func61 rfl ?_
 refine sv0 ?_
 constructor <;> intro h
 ·refine Fin.nt results61 [] ?_ ?_ ?_ <;> try trivial
  (refine rsl ?_; try exact .intro)
  exact szL_bad (left := left) (a := l.length) (by rw [szL_raw]; exact h) (by omega)
 have a0 : decide (szL left l.length < 0) = false := by rw [szL_raw]; exact h
 have e0 : left - (l.length : Int) = szL left (l.length + ((l.take 0).map sizLList).sum) := by
  have := (szL_le h1 a0).2.1; simp; exact this.symm
 rw [e0]
 refine LoopK_intro (fun n s => ∃ i : Nat, i <= l.length /\ n = l.length - i /\ decide (szL left (l.length + ((l.take i).map sizLList).sum) < 0) = false /\ s = mkSt [(5, .one (.dat (.int .i64 i))), (1, .one (.dat (.int .i64 (szL left (l.length + ((l.take i).map sizLList).sum))))), (0, .one (.dat (.sl 1 (l.map encLList))))] []) l.length _
  (Ent.wk []) ⟨0, by omega, by omega, by simpa using a0, rfl⟩ ?_
 rintro n s ⟨i, hi, rfl, ht, rfl⟩ K hK
 rcases Nat.lt_or_ge i l.length with hlt | hge
 ·have hdi : decide ((i : Int) < l.length) = true := by simpa using hlt
  have hwi := wrap_succ hlt hl
  have hs := sum_take_succ sizLList hlt
  have hs2 := sum_take_le sizLList l (i + 1)
  obtain ⟨_, _, g, u⟩ := szL_le h1 ht
  simp (maxSteps := 2000000) only [go_sem, seval, hdi, hwi, getD_map hlt, encLList]
  refine ⟨⟨by omega, by omega⟩, hlt, ?_⟩
  refine CallK_pure e113 (c113 l[i] (hk _ (List.getElem_mem hlt)) _ g u) rfl ?_
  refine sv4 ?_
  rw [Nat.add_assoc, <- hs]
  constructor <;> intro h
  ·apply hK
   refine evl ?_
   refine Fin.nt results61 [] ?_ ?_ ?_ <;> try trivial
   (refine rsl ?_; try exact .intro)
   exact szL_bad h (by omega)
  ·apply hK
   exact ⟨l.length - (i + 1), _, by omega, Ent.wk [], i + 1, by omega, rfl, h, rfl⟩
 ·have hge' : i = l.length := by omega
  subst hge'
  have hdi : decide ((l.length : Int) < l.length) = false := by simp
  refine sv3 ?_
  apply hK
  refine evl ?_
  refine Fin.nt results61 [] ?_ ?_ ?_ <;> try trivial
  all_goals try ((refine rsl ?_; try exact .intro))
  all_goals simp
theorem c69 (l : List LList) (h : sizLListS l <= 1048576) : Ctr prog 69 [.one (.dat (.sl 1 (l.map encLList)))] [] (.one (.own 0)) [.vec 1 true (l.map encLList)] := by
 have hl : l.length <= 1048576 := by unfold sizLListS at h; omega
 refine Ctr.bd mixed func69 rfl ?_
 refine evl ?_
 refine ⟨by omega, ?_⟩
 refine LoopK_intro (fun n s => ∃ i : Nat, i <= l.length /\ n = l.length - i /\ s = mkSt [(4, .one (.dat (.int .i64 i))), (3, .one (.own 0)), (0, .one (.dat (.sl 1 (l.map encLList))))]
   [.vec 1 true ((l.take i).map encLList ++ List.replicate (l.length - i) [.sl 2 []])]) l.length _
  (Ent.wk [0]) ⟨0, by omega, by omega, rfl⟩ ?_
 rintro n s ⟨i, hi, rfl, rfl⟩ K hK
 rcases Nat.lt_or_ge i l.length with hlt | hge
 ·have hdi : decide ((i : Int) < l.length) = true := by simpa using hlt
  simp (maxSteps := 2000000) only [go_sem, seval, hdi, getD_map hlt, encLList, D.flat, wrap_succ hlt (le20 hl)]
  first | refine ⟨⟨by omega, by omega⟩, hlt, ?_⟩ | refine ⟨by omega, hlt, ?_⟩
  refine CallK_pure e126 (c126 l[i] (by have := sum_get sizLList hlt; unfold sizLListS at h; omega)) rfl ?_
  simp (maxSteps := 2000000) only [go_sem, seval, encLList, D.flat, wrap_succ hlt (le20 hl)]
  repeat' ((with_reducible show _ /\ _); apply And.intro)
  all_goals first
   | (apply hK
      refine ⟨l.length - (i + 1), _, by omega, Ent.weak (ids := [0]) (by simp) rfl (by simp) ?_ ?_ ?_, i + 1, by omega, rfl, rfl⟩
      ·simp only [objsLe, St.obj, find, AObj.renF, if_true, Option.getD_some, List.getD_cons_zero, and_true]
       rw [<- take_set encLList l _ hlt]
       exact ⟨by simp, Or.inr rfl⟩
      ·simp [objsLe, envLe, find, St.obj, AObj.renF, AV.renF, AV.renF1, Leaf.renF, LowAll, AV.Low, AV.Low1, Leaf.Low, AObj.Low, Ptr.renF, Ptr.Low]
      ·simp [objsLe, envLe, find, St.obj, AObj.renF, AV.renF, AV.renF1, Leaf.renF, LowAll, AV.Low, AV.Low1, Leaf.Low, AObj.Low, Ptr.renF, Ptr.Low])
   | omega
   | decide
   | (simp; done)
   | (simp; omega)
   | trivial
 ·have hge' : i = l.length := by omega
  subst hge'
  have hdi : decide ((l.length : Int) < l.length) = false := by simp
  refine sv3 ?_
  apply hK
  refine evl ?_
  refine Fin.nt results69 [0] ?_ ?_ ?_ <;> try trivial
  all_goals simp [objsLe, St.obj, find, AObj.renF]
theorem c83 (l l' : List LList) (h0 : sizLListS l <= 1048576) (h0' : sizLListS l' <= 1048576) : Ctr prog 83 [.one (.dat (.sl 1 (l.map encLList))), .one (.dat (.sl 1 (l'.map encLList)))] [] (.one (.dat (.bool (decide (l = l'))))) [] := by
 have hl : l.length <= maxLen := (lokLListS (by omega)).1
 have hl' : l'.length <= maxLen := (lokLListS (by omega)).1
 refine Ctr.bd mixed func83 rfl ?_
 refine evl ?_
 constructor <;> intro h
 ·have hne : l.length ≠ l'.length := by simp at h; omega
  refine Fin.nt results83 [] ?_ ?_ ?_ <;> try trivial
  (refine rsl ?_; try exact .intro)
  symm; rw [decide_eq_false_iff_not]
  intro e; exact hne (by rw [e])
 have hlen : l.length = l'.length := by simp at h; omega
 refine LoopK_intro (fun n s => ∃ i : Nat, i <= l.length /\ n = l.length - i /\ l.take i = l'.take i /\ s = mkSt [(5, .one (.dat (.int .i64 i))), (1, .one (.dat (.sl 1 (l'.map encLList)))), (0, .one (.dat (.sl 1 (l.map encLList))))] []) l.length _
  (Ent.wk []) ⟨0, by omega, by omega, rfl, rfl⟩ ?_
 rintro n s ⟨i, hi, rfl, ht, rfl⟩ K hK
 rcases Nat.lt_or_ge i l.length with hlt | hge
 ·have hdi : decide ((i : Int) < l.length) = true := by simpa using hlt
  have hlt' : i < l'.length := by omega
  simp (maxSteps := 2000000) only [go_sem, seval, hdi, wrap_succ hlt hl, getD_map hlt, getD_map hlt', encLList]
  refine ⟨⟨by omega, by omega⟩, hlt, ⟨by omega, by omega⟩, hlt', ?_⟩
  first
   | refine CCallK_intro e149 (fun _ => ⟨trivial, c149 l[i] l'[i] (by have := sum_get sizLList hlt; unfold sizLListS at h0; omega) (by have := sum_get sizLList hlt'; unfold sizLListS at h0'; omega)⟩) rfl rfl ?_
   | refine Or.inl (CCallK_intro e149 (fun _ => ⟨trivial, c149 l[i] l'[i] (by have := sum_get sizLList hlt; unfold sizLListS at h0; omega) (by have := sum_get sizLList hlt'; unfold sizLListS at h0'; omega)⟩) rfl rfl ?_)
  refine sv1 ?_
  constructor <;> intro h
  ·apply hK
   refine evl ?_
   refine Fin.nt results83 [] ?_ ?_ ?_ <;> try trivial
   (refine rsl ?_; try exact .intro)
   symm; rw [decide_eq_false_iff_not]
   rintro rfl; simp at h
  ·apply hK
   have he : l[i] = l'[i] := by simpa using h
   exact ⟨l.length - (i + 1), _, by omega, Ent.wk [], i + 1, by omega, rfl, by rw [List.take_succ_eq_append_getElem hlt, List.take_succ_eq_append_getElem hlt', ht, he], rfl⟩
 ·have hge' : i = l.length := by omega
  subst hge'
  have hdi : decide ((l.length : Int) < l.length) = false := by simp
  refine sv3 ?_
  apply hK
  refine evl ?_
  refine Fin.nt results83 [] ?_ ?_ ?_ <;> try trivial
  (refine rsl ?_; try exact .intro)
  symm; rw [decide_eq_true_iff]
  rw [List.take_of_length_le (Nat.le_refl _), List.take_of_length_le (by omega)] at ht
  exact ht
structure Base where
 Mem : Mem
 Clock : Clock
 Limbo : List LList
 Haz : List Int
 deriving DecidableEq
def encBase (x : Base) : List D := [.sl 1 (x.Mem.Heap.Bytes.map encI), .sl 1 (x.Mem.Heap.Class.map encI), .sl 1 (x.Mem.Lists.Global.map encSList), .sl 1 (x.Mem.Lists.Own.map encSList), .int .i64 x.Clock.Epoch, .sl 4 (x.Clock.Pins.map encPin), .sl 1 (x.Limbo.map encLList), .sl 1 (x.Haz.map encI)]
def Base.wf (x : Base) : Prop := x.Mem.wf /\ x.Clock.wf /\ (∀ y ∈ x.Limbo, y.wf) /\ (∀ y ∈ x.Haz, (Lit.int .i64 y).wf = true) /\ True
theorem Base.eq_iff (x y : Base) : x = y ↔ x.Mem = y.Mem /\ x.Clock = y.Clock /\ x.Limbo = y.Limbo /\ x.Haz = y.Haz := by cases x; cases y; simp
def Base.lok (x : Base) : Prop := x.Mem.lok /\ x.Clock.lok /\ x.Limbo.length <= maxLen /\ (∀ y ∈ x.Limbo, y.lok) /\ x.Haz.length <= maxLen /\ True
def sizBase (x : Base) : Nat := sizMem x.Mem + sizClock x.Clock + sizLListS x.Limbo + x.Haz.length
def sizBaseS (l : List Base) : Nat := l.length + (l.map sizBase).sum
def zeroBase : Base := ⟨zeroMem, zeroClock, [], []⟩
theorem decBase (n : Nat) (ds : List D) (h : WT prog n 35 ds) : ∃ x : Base, ds = encBase x /\ x.wf /\ x.lok := by
 cases n with
 | zero => exact h.elim
 | succ n =>
  unfold WT at h
  rw [underlying35] at h
  simp only [List.toList_toArray, List.map_cons, List.map_nil, WTs] at h
  obtain ⟨_, _, rfl, h0, ⟨_, _, rfl, h1, ⟨_, _, rfl, h2, ⟨_, _, rfl, h3, rfl⟩⟩⟩⟩ := h
  obtain ⟨x0, rfl, w0, k0⟩ := decMem _ _ h0
  obtain ⟨x1, rfl, w1, k1⟩ := decClock _ _ h1
  obtain ⟨x2, rfl, c2, w2⟩ := decSl (enc := encLList) (q := fun x => x.wf /\ x.lok) underlying33 tc_157 decLList h2
  obtain ⟨x3, rfl, c3, w3⟩ := decSl (enc := encI) (q := fun x => (Lit.int .i64 x).wf = true) underlying22 tc_3 (fun _ _ h => decInt underlying3 h) h3
  exact ⟨⟨x0, x1, x2, x3⟩, rfl, ⟨w0, w1, fun y hy => (w2 y hy).1, w3, trivial⟩, ⟨k0, k1, c2, fun y hy => (w2 y hy).2, c3, trivial⟩⟩
theorem Base.lok_of {x : Base} (h : sizBase x <= 16777216) : x.lok := by
 have hm : maxLen = 9223372036854775807 := rfl
 unfold sizBase at h
 unfold sizLListS at h
 exact ⟨Mem.lok_of (by omega), Clock.lok_of (by omega), by omega, fun y hy => LList.lok_of (by have := sum_mem sizLList hy; omega), by omega, trivial⟩
theorem lokBaseS {l : List Base} (h : sizBaseS l <= 16777216) : l.length <= maxLen /\ ∀ y ∈ l, y.lok := by
 have hm : maxLen = 9223372036854775807 := rfl
 unfold sizBaseS at h
 exact ⟨by omega, fun y hy => Base.lok_of (by have := sum_mem sizBase hy; omega)⟩
theorem c23 (x : Base) (hk : x.lok) (left : Int) (h0 : 0 <= left) (h1 : left <= 1048576) : Ctr prog 23 [.agg ((encBase x).map .dat), .one (.dat (.int .i64 left))] [] (.one (.dat (.int .i64 (szL left (sizBase x))))) [] := by
 simp only [encBase, List.map_cons, List.map_nil]
 unfold sizBase
 refine Ctr.bd mixed func23 rfl ?_
 refine evl ?_
 obtain ⟨kMem, kClock, kLimbo, qLimbo, kHaz, _⟩ := hk
 refine CallK_pure e59 (c59 x.Mem kMem left h0 h1) rfl ?_
 refine evl ?_
 constructor <;> intro h
 ·refine Fin.nt results23 [] ?_ ?_ ?_ <;> try trivial
  (refine rsl ?_; try exact .intro)
  try simp only [List.length_map] at h
  exact szL_bad (h) (by omega)
 try simp only [List.length_map] at h
 have a0 : decide (szL left (sizMem x.Mem) < 0) = false := h
 obtain ⟨_, _, g0, u0⟩ := szL_le h1 a0
 try simp only [List.length_map]
 refine CallK_pure e60 (c60 x.Clock kClock (szL left (sizMem x.Mem)) g0 u0) rfl ?_
 refine evl ?_
 constructor <;> intro h
 ·refine Fin.nt results23 [] ?_ ?_ ?_ <;> try trivial
  (refine rsl ?_; try exact .intro)
  try simp only [List.length_map] at h
  exact szL_bad (szL_at h0 a0 ▸ h) (by omega)
 try simp only [List.length_map] at h
 have a1 : decide (szL left (sizMem x.Mem + sizClock x.Clock) < 0) = false := szL_at h0 a0 ▸ h
 obtain ⟨_, _, g1, u1⟩ := szL_le h1 a1
 try simp only [List.length_map]
 rw [szL_at h0 a0]
 refine CallK_pure e61 (c61 x.Limbo kLimbo qLimbo (szL left (sizMem x.Mem + sizClock x.Clock)) g1 u1) rfl ?_
 refine evl ?_
 constructor <;> intro h
 ·refine Fin.nt results23 [] ?_ ?_ ?_ <;> try trivial
  (refine rsl ?_; try exact .intro)
  try simp only [List.length_map] at h
  exact szL_bad (szL_at h0 a1 ▸ h) (by omega)
 try simp only [List.length_map] at h
 have a2 : decide (szL left (sizMem x.Mem + sizClock x.Clock + sizLListS x.Limbo) < 0) = false := szL_at h0 a1 ▸ h
 obtain ⟨_, _, g2, u2⟩ := szL_le h1 a2
 try simp only [List.length_map]
 rw [szL_at h0 a1]
 refine CallK_pure e24 (c24 (x.Haz.map encI) (szL left (sizMem x.Mem + sizClock x.Clock + sizLListS x.Limbo)) g2 u2 (by simpa using kHaz)) rfl ?_
 refine evl ?_
 constructor <;> intro h
 ·refine Fin.nt results23 [] ?_ ?_ ?_ <;> try trivial
  (refine rsl ?_; try exact .intro)
  try simp only [List.length_map] at h
  exact szL_bad (szL_at h0 a2 ▸ h) (by omega)
 try simp only [List.length_map] at h
 have a3 : decide (szL left (sizMem x.Mem + sizClock x.Clock + sizLListS x.Limbo + x.Haz.length) < 0) = false := szL_at h0 a2 ▸ h
 refine Fin.nt results23 [] ?_ ?_ ?_ <;> try trivial
 all_goals try ((refine rsl ?_; try exact .intro))
 all_goals try simp only [List.length_map]
 all_goals try exact szL_at h0 a2
theorem c29 (x : Base) (h : sizBase x <= 1048576) : Ctr prog 29 [.agg ((encBase x).map .dat)] [] (.agg [.own 0, .own 1, .own 2, .own 3, .dat (.int .i64 x.Clock.Epoch), .own 4, .own 5, .own 6]) [.vec 1 true (x.Mem.Heap.Bytes.map encI), .vec 1 true (x.Mem.Heap.Class.map encI), .vec 1 true (x.Mem.Lists.Global.map encSList), .vec 1 true (x.Mem.Lists.Own.map encSList), .vec 4 true (x.Clock.Pins.map encPin), .vec 1 true (x.Limbo.map encLList), .vec 1 true (x.Haz.map encI)] := by
 simp only [encBase, List.map_cons, List.map_nil]
 unfold sizBase at h
 refine Ctr.bd mixed func29 rfl ?_
 refine evl ?_
 refine CallK_pure e67 (c67 x.Mem (by omega)) rfl ?_
 refine evl ?_
 refine CallK_pure e68 (c68 x.Clock (by omega)) rfl ?_
 refine evl ?_
 refine CallK_pure e69 (c69 x.Limbo (by omega)) rfl ?_
 refine evl ?_
 refine CallK_pure e30 (c30 x.Haz (by omega)) rfl ?_
 refine evl ?_
 first | ((refine Fin.nt results29 [3, 4, 5, 6, 7, 8, 9] ?_ ?_ ?_ <;> try trivial) <;> (first | rfl | exact entd); done) | ((refine Fin.nt results29 [2, 3, 4, 5, 6, 7, 8] ?_ ?_ ?_ <;> try trivial) <;> (first | rfl | exact entd); done) | ((refine Fin.nt results29 [1, 2, 3, 4, 5, 6, 7] ?_ ?_ ?_ <;> try trivial) <;> (first | rfl | exact entd); done) | ((refine Fin.nt results29 [0, 1, 2, 3, 4, 5, 6] ?_ ?_ ?_ <;> try trivial) <;> (first | rfl | exact entd); done) | ((refine Fin.nt results29 [4, 5, 6, 7, 8, 9, 10] ?_ ?_ ?_ <;> try trivial) <;> (first | rfl | exact entd); done) | ((refine Fin.nt results29 [5, 6, 7, 8, 9, 10, 11] ?_ ?_ ?_ <;> try trivial) <;> (first | rfl | exact entd); done)
theorem c35 (x y : Base) (hx : sizBase x <= 1048576) (hy : sizBase y <= 1048576) : Ctr prog 35 [.agg ((encBase x).map .dat), .agg ((encBase y).map .dat)] [] (.one (.dat (.bool (decide (x = y))))) [] := by
 simp only [encBase, List.map_cons, List.map_nil]
 unfold sizBase at hx hy
 have hm : maxLen = 9223372036854775807 := rfl
 refine Ctr.bd mixed func35 rfl ?_
 refine evl ?_
 refine ck e81 (c81 x.Mem y.Mem (by omega) (by omega)) rfl ?_
 refine evl ?_
 constructor <;> intro h
 ·refine Fin.nt results35 [] ?_ ?_ ?_ <;> try trivial
  (refine rsl ?_; try exact .intro)
  simp_all [Base.eq_iff]
 have eMem := h; clear h
 refine ck e82 (c82 x.Clock y.Clock (by omega) (by omega)) rfl ?_
 refine evl ?_
 constructor <;> intro h
 ·refine Fin.nt results35 [] ?_ ?_ ?_ <;> try trivial
  (refine rsl ?_; try exact .intro)
  simp_all [Base.eq_iff]
 have eClock := h; clear h
 refine ck e83 (c83 x.Limbo y.Limbo (by omega) (by omega)) rfl ?_
 refine evl ?_
 constructor <;> intro h
 ·refine Fin.nt results35 [] ?_ ?_ ?_ <;> try trivial
  (refine rsl ?_; try exact .intro)
  simp_all [Base.eq_iff]
 have eLimbo := h; clear h
 refine ck e11 (c11 x.Haz y.Haz (by omega) (by omega)) rfl ?_
 refine evl ?_
 constructor <;> intro h
 ·refine Fin.nt results35 [] ?_ ?_ ?_ <;> try trivial
  (refine rsl ?_; try exact .intro)
  simp_all [Base.eq_iff]
 have eHaz := h; clear h
 refine Fin.nt results35 [] ?_ ?_ ?_ <;> try trivial
 (refine rsl ?_; try exact .intro)
 simp_all [Base.eq_iff]
structure Sub where
 Kind : Int
 A : Int
 Pc : Int
 E : Int
 Row : Int
 B : Int
 H : Int
 Out : Int
 Code : Int
 Done : Bool
 deriving DecidableEq
def encSub (x : Sub) : List D := [.int .i64 x.Kind, .int .i64 x.A, .int .i64 x.Pc, .int .i64 x.E, .int .i64 x.Row, .int .i64 x.B, .int .i64 x.H, .int .i64 x.Out, .int .i64 x.Code, .bool x.Done]
def Sub.wf (x : Sub) : Prop := (Lit.int .i64 x.Kind).wf = true /\ (Lit.int .i64 x.A).wf = true /\ (Lit.int .i64 x.Pc).wf = true /\ (Lit.int .i64 x.E).wf = true /\ (Lit.int .i64 x.Row).wf = true /\ (Lit.int .i64 x.B).wf = true /\ (Lit.int .i64 x.H).wf = true /\ (Lit.int .i64 x.Out).wf = true /\ (Lit.int .i64 x.Code).wf = true /\ True
theorem Sub.eq_iff (x y : Sub) : x = y ↔ x.Kind = y.Kind /\ x.A = y.A /\ x.Pc = y.Pc /\ x.E = y.E /\ x.Row = y.Row /\ x.B = y.B /\ x.H = y.H /\ x.Out = y.Out /\ x.Code = y.Code /\ x.Done = y.Done := by cases x; cases y; simp
def Sub.lok (x : Sub) : Prop := True
def zeroSub : Sub := ⟨0, 0, 0, 0, 0, 0, 0, 0, 0, false⟩
theorem decSub (n : Nat) (ds : List D) (h : WT prog n 119 ds) : ∃ x : Sub, ds = encSub x /\ x.wf /\ x.lok := by
 cases n with
 | zero => exact h.elim
 | succ n =>
  unfold WT at h
  rw [underlying119] at h
  simp only [List.toList_toArray, List.map_cons, List.map_nil, WTs] at h
  obtain ⟨_, _, rfl, h0, ⟨_, _, rfl, h1, ⟨_, _, rfl, h2, ⟨_, _, rfl, h3, ⟨_, _, rfl, h4, ⟨_, _, rfl, h5, ⟨_, _, rfl, h6, ⟨_, _, rfl, h7, ⟨_, _, rfl, h8, ⟨_, _, rfl, h9, rfl⟩⟩⟩⟩⟩⟩⟩⟩⟩⟩ := h
  obtain ⟨x0, rfl, w0⟩ := decInt underlying3 h0
  obtain ⟨x1, rfl, w1⟩ := decInt underlying3 h1
  obtain ⟨x2, rfl, w2⟩ := decInt underlying3 h2
  obtain ⟨x3, rfl, w3⟩ := decInt underlying3 h3
  obtain ⟨x4, rfl, w4⟩ := decInt underlying3 h4
  obtain ⟨x5, rfl, w5⟩ := decInt underlying3 h5
  obtain ⟨x6, rfl, w6⟩ := decInt underlying3 h6
  obtain ⟨x7, rfl, w7⟩ := decInt underlying3 h7
  obtain ⟨x8, rfl, w8⟩ := decInt underlying3 h8
  obtain ⟨x9, rfl⟩ := decBool underlying4 h9
  exact ⟨⟨x0, x1, x2, x3, x4, x5, x6, x7, x8, x9⟩, rfl, ⟨w0, w1, w2, w3, w4, w5, w6, w7, w8, trivial⟩, trivial⟩
theorem c128 (x : Sub) : Ctr prog 128 [.agg ((encSub x).map .dat)] [] (.agg [.dat (.int .i64 x.Kind), .dat (.int .i64 x.A), .dat (.int .i64 x.Pc), .dat (.int .i64 x.E), .dat (.int .i64 x.Row), .dat (.int .i64 x.B), .dat (.int .i64 x.H), .dat (.int .i64 x.Out), .dat (.int .i64 x.Code), .dat (.bool x.Done)]) [] := by
 simp only [encSub, List.map_cons, List.map_nil]
 refine Ctr.bd mixed func128 rfl ?_
 refine evl ?_
 first | ((refine Fin.nt results128 [] ?_ ?_ ?_ <;> try trivial) <;> (first | rfl | exact entd); done) | ((refine Fin.nt results128 [] ?_ ?_ ?_ <;> try trivial) <;> (first | rfl | exact entd); done) | ((refine Fin.nt results128 [] ?_ ?_ ?_ <;> try trivial) <;> (first | rfl | exact entd); done) | ((refine Fin.nt results128 [] ?_ ?_ ?_ <;> try trivial) <;> (first | rfl | exact entd); done) | ((refine Fin.nt results128 [] ?_ ?_ ?_ <;> try trivial) <;> (first | rfl | exact entd); done) | ((refine Fin.nt results128 [] ?_ ?_ ?_ <;> try trivial) <;> (first | rfl | exact entd); done)
theorem c151 (x y : Sub) : Ctr prog 151 [.agg ((encSub x).map .dat), .agg ((encSub y).map .dat)] [] (.one (.dat (.bool (decide (x = y))))) [] := by
 simp only [encSub, List.map_cons, List.map_nil]
 refine Ctr.bd mixed func151 rfl ?_
 refine evl ?_
 constructor <;> intro h
 ·refine Fin.nt results151 [] ?_ ?_ ?_ <;> try trivial
  (refine rsl ?_; try exact .intro)
  simp_all [Sub.eq_iff]
 have eKind := h; clear h
 constructor <;> intro h
 ·refine Fin.nt results151 [] ?_ ?_ ?_ <;> try trivial
  (refine rsl ?_; try exact .intro)
  simp_all [Sub.eq_iff]
 have eA := h; clear h
 constructor <;> intro h
 ·refine Fin.nt results151 [] ?_ ?_ ?_ <;> try trivial
  (refine rsl ?_; try exact .intro)
  simp_all [Sub.eq_iff]
 have ePc := h; clear h
 constructor <;> intro h
 ·refine Fin.nt results151 [] ?_ ?_ ?_ <;> try trivial
  (refine rsl ?_; try exact .intro)
  simp_all [Sub.eq_iff]
 have eE := h; clear h
 constructor <;> intro h
 ·refine Fin.nt results151 [] ?_ ?_ ?_ <;> try trivial
  (refine rsl ?_; try exact .intro)
  simp_all [Sub.eq_iff]
 have eRow := h; clear h
 constructor <;> intro h
 ·refine Fin.nt results151 [] ?_ ?_ ?_ <;> try trivial
  (refine rsl ?_; try exact .intro)
  simp_all [Sub.eq_iff]
 have eB := h; clear h
 constructor <;> intro h
 ·refine Fin.nt results151 [] ?_ ?_ ?_ <;> try trivial
  (refine rsl ?_; try exact .intro)
  simp_all [Sub.eq_iff]
 have eH := h; clear h
 constructor <;> intro h
 ·refine Fin.nt results151 [] ?_ ?_ ?_ <;> try trivial
  (refine rsl ?_; try exact .intro)
  simp_all [Sub.eq_iff]
 have eOut := h; clear h
 constructor <;> intro h
 ·refine Fin.nt results151 [] ?_ ?_ ?_ <;> try trivial
  (refine rsl ?_; try exact .intro)
  simp_all [Sub.eq_iff]
 have eCode := h; clear h
 constructor <;> intro h
 ·refine Fin.nt results151 [] ?_ ?_ ?_ <;> try trivial
  (refine rsl ?_; try exact .intro)
  simp_all [Sub.eq_iff]
 have eDone := h; clear h
 refine Fin.nt results151 [] ?_ ?_ ?_ <;> try trivial
 (refine rsl ?_; try exact .intro)
 simp_all [Sub.eq_iff]
def Op.lok (x : Op) : Prop := True
def zeroOp : Op := ⟨0, 0, 0, 0⟩
theorem decOp (n : Nat) (ds : List D) (h : WT prog n 118 ds) : ∃ x : Op, ds = encOp x /\ x.wf /\ x.lok := by
 cases n with
 | zero => exact h.elim
 | succ n =>
  unfold WT at h
  rw [underlying118] at h
  simp only [List.toList_toArray, List.map_cons, List.map_nil, WTs] at h
  obtain ⟨_, _, rfl, h0, ⟨_, _, rfl, h1, ⟨_, _, rfl, h2, ⟨_, _, rfl, h3, rfl⟩⟩⟩⟩ := h
  obtain ⟨x0, rfl, w0⟩ := decInt underlying3 h0
  obtain ⟨x1, rfl, w1⟩ := decInt underlying3 h1
  obtain ⟨x2, rfl, w2⟩ := decInt underlying3 h2
  obtain ⟨x3, rfl, w3⟩ := decInt underlying3 h3
  exact ⟨⟨x0, x1, x2, x3⟩, rfl, ⟨w0, w1, w2, w3, trivial⟩, trivial⟩
structure Queue where
 Ops : List Op
 deriving DecidableEq
def encQueue (x : Queue) : List D := [.sl 4 (x.Ops.map encOp)]
def Queue.wf (x : Queue) : Prop := (∀ y ∈ x.Ops, y.wf) /\ True
theorem Queue.eq_iff (x y : Queue) : x = y ↔ x.Ops = y.Ops := by cases x; cases y; simp
def Queue.lok (x : Queue) : Prop := x.Ops.length <= maxLen /\ True
def sizQueue (x : Queue) : Nat := x.Ops.length
def sizQueueS (l : List Queue) : Nat := l.length + (l.map sizQueue).sum
def zeroQueue : Queue := ⟨[]⟩
theorem decQueue (n : Nat) (ds : List D) (h : WT prog n 109 ds) : ∃ x : Queue, ds = encQueue x /\ x.wf /\ x.lok := by
 cases n with
 | zero => exact h.elim
 | succ n =>
  unfold WT at h
  rw [underlying109] at h
  simp only [List.toList_toArray, List.map_cons, List.map_nil, WTs] at h
  obtain ⟨_, _, rfl, h0, rfl⟩ := h
  obtain ⟨x0, rfl, c0, w0⟩ := decSl (enc := encOp) (q := fun x => x.wf /\ x.lok) underlying107 tc_118 decOp h0
  exact ⟨⟨x0⟩, rfl, ⟨fun y hy => (w0 y hy).1, trivial⟩, ⟨c0, trivial⟩⟩
theorem Queue.lok_of {x : Queue} (h : sizQueue x <= 16777216) : x.lok := by
 have hm : maxLen = 9223372036854775807 := rfl
 unfold sizQueue at h
 exact ⟨by omega, trivial⟩
theorem lokQueueS {l : List Queue} (h : sizQueueS l <= 16777216) : l.length <= maxLen /\ ∀ y ∈ l, y.lok := by
 have hm : maxLen = 9223372036854775807 := rfl
 unfold sizQueueS at h
 exact ⟨by omega, fun y hy => Queue.lok_of (by have := sum_mem sizQueue hy; omega)⟩
theorem c62 (x : Queue) (hk : x.lok) (left : Int) (h0 : 0 <= left) (h1 : left <= 1048576) : Ctr prog 62 [.agg ((encQueue x).map .dat), .one (.dat (.int .i64 left))] [] (.one (.dat (.int .i64 (szL left (sizQueue x))))) [] := by
 simp only [encQueue, List.map_cons, List.map_nil]
 unfold sizQueue
 refine Ctr.bd mixed func62 rfl ?_
 refine evl ?_
 obtain ⟨kOps, _⟩ := hk
 refine CallK_pure e114 (c114 (x.Ops.map encOp) left h0 h1 (by simpa using kOps)) rfl ?_
 refine evl ?_
 constructor <;> intro h
 ·refine Fin.nt results62 [] ?_ ?_ ?_ <;> try trivial
  (refine rsl ?_; try exact .intro)
  try simp only [List.length_map] at h
  exact szL_bad (h) (by omega)
 try simp only [List.length_map] at h
 have a0 : decide (szL left (x.Ops.length) < 0) = false := h
 refine Fin.nt results62 [] ?_ ?_ ?_ <;> try trivial
 all_goals try ((refine rsl ?_; try exact .intro))
 all_goals try simp only [List.length_map]
theorem c71 (x : Queue) (h : sizQueue x <= 1048576) : Ctr prog 71 [.agg ((encQueue x).map .dat)] [] (.agg [.own 0]) [.vec 4 true (x.Ops.map encOp)] := by
 simp only [encQueue, List.map_cons, List.map_nil]
 unfold sizQueue at h
 refine Ctr.bd mixed func71 rfl ?_
 refine evl ?_
 refine CallK_pure e129 (c129 x.Ops (by omega)) rfl ?_
 refine evl ?_
 first | ((refine Fin.nt results71 [3] ?_ ?_ ?_ <;> try trivial) <;> (first | rfl | exact entd); done) | ((refine Fin.nt results71 [2] ?_ ?_ ?_ <;> try trivial) <;> (first | rfl | exact entd); done) | ((refine Fin.nt results71 [1] ?_ ?_ ?_ <;> try trivial) <;> (first | rfl | exact entd); done) | ((refine Fin.nt results71 [0] ?_ ?_ ?_ <;> try trivial) <;> (first | rfl | exact entd); done) | ((refine Fin.nt results71 [4] ?_ ?_ ?_ <;> try trivial) <;> (first | rfl | exact entd); done) | ((refine Fin.nt results71 [5] ?_ ?_ ?_ <;> try trivial) <;> (first | rfl | exact entd); done)
theorem c85 (x y : Queue) (hx : sizQueue x <= 1048576) (hy : sizQueue y <= 1048576) : Ctr prog 85 [.agg ((encQueue x).map .dat), .agg ((encQueue y).map .dat)] [] (.one (.dat (.bool (decide (x = y))))) [] := by
 simp only [encQueue, List.map_cons, List.map_nil]
 unfold sizQueue at hx hy
 have hm : maxLen = 9223372036854775807 := rfl
 refine Ctr.bd mixed func85 rfl ?_
 refine evl ?_
 refine ck e152 (c152 x.Ops y.Ops (by omega) (by omega)) rfl ?_
 refine evl ?_
 constructor <;> intro h
 ·refine Fin.nt results85 [] ?_ ?_ ?_ <;> try trivial
  (refine rsl ?_; try exact .intro)
  simp_all [Queue.eq_iff]
 have eOps := h; clear h
 refine Fin.nt results85 [] ?_ ?_ ?_ <;> try trivial
 (refine rsl ?_; try exact .intro)
 simp_all [Queue.eq_iff]
theorem c26 (l : List Queue) (hl : l.length <= maxLen) (hk : ∀ y ∈ l, y.lok) (left : Int) (h0 : 0 <= left) (h1 : left <= 1048576) : Ctr prog 26 [.one (.dat (.sl 1 (l.map encQueue))), .one (.dat (.int .i64 left))] [] (.one (.dat (.int .i64 (szL left (sizQueueS l))))) [] := by
 have hw := szL_wrap h0 h1 hl
 unfold sizQueueS
 refine Ctr.bd mixed func26 rfl ?_
 refine sv0 ?_
 constructor <;> intro h
 ·refine Fin.nt results26 [] ?_ ?_ ?_ <;> try trivial
  (refine rsl ?_; try exact .intro)
  exact szL_bad (left := left) (a := l.length) (by rw [szL_raw]; exact h) (by omega)
 have a0 : decide (szL left l.length < 0) = false := by rw [szL_raw]; exact h
 have e0 : left - (l.length : Int) = szL left (l.length + ((l.take 0).map sizQueue).sum) := by
  have := (szL_le h1 a0).2.1; simp; exact this.symm
 rw [e0]
 refine LoopK_intro (fun n s => ∃ i : Nat, i <= l.length /\ n = l.length - i /\ decide (szL left (l.length + ((l.take i).map sizQueue).sum) < 0) = false /\ s = mkSt [(5, .one (.dat (.int .i64 i))), (1, .one (.dat (.int .i64 (szL left (l.length + ((l.take i).map sizQueue).sum))))), (0, .one (.dat (.sl 1 (l.map encQueue))))] []) l.length _
  (Ent.wk []) ⟨0, by omega, by omega, by simpa using a0, rfl⟩ ?_
 rintro n s ⟨i, hi, rfl, ht, rfl⟩ K hK
 rcases Nat.lt_or_ge i l.length with hlt | hge
 ·have hdi : decide ((i : Int) < l.length) = true := by simpa using hlt
  have hwi := wrap_succ hlt hl
  have hs := sum_take_succ sizQueue hlt
  have hs2 := sum_take_le sizQueue l (i + 1)
  obtain ⟨_, _, g, u⟩ := szL_le h1 ht
  simp (maxSteps := 2000000) only [go_sem, seval, hdi, hwi, getD_map hlt, encQueue]
  refine ⟨⟨by omega, by omega⟩, hlt, ?_⟩
  refine CallK_pure e62 (c62 l[i] (hk _ (List.getElem_mem hlt)) _ g u) rfl ?_
  refine sv4 ?_
  rw [Nat.add_assoc, <- hs]
  constructor <;> intro h
  ·apply hK
   refine evl ?_
   refine Fin.nt results26 [] ?_ ?_ ?_ <;> try trivial
   (refine rsl ?_; try exact .intro)
   exact szL_bad h (by omega)
  ·apply hK
   exact ⟨l.length - (i + 1), _, by omega, Ent.wk [], i + 1, by omega, rfl, h, rfl⟩
 ·have hge' : i = l.length := by omega
  subst hge'
  have hdi : decide ((l.length : Int) < l.length) = false := by simp
  refine sv3 ?_
  apply hK
  refine evl ?_
  refine Fin.nt results26 [] ?_ ?_ ?_ <;> try trivial
  all_goals try ((refine rsl ?_; try exact .intro))
  all_goals simp
theorem c32 (l : List Queue) (h : sizQueueS l <= 1048576) : Ctr prog 32 [.one (.dat (.sl 1 (l.map encQueue)))] [] (.one (.own 0)) [.vec 1 true (l.map encQueue)] := by
 have hl : l.length <= 1048576 := by unfold sizQueueS at h; omega
 refine Ctr.bd mixed func32 rfl ?_
 refine evl ?_
 refine ⟨by omega, ?_⟩
 refine LoopK_intro (fun n s => ∃ i : Nat, i <= l.length /\ n = l.length - i /\ s = mkSt [(4, .one (.dat (.int .i64 i))), (3, .one (.own 0)), (0, .one (.dat (.sl 1 (l.map encQueue))))]
   [.vec 1 true ((l.take i).map encQueue ++ List.replicate (l.length - i) [.sl 4 []])]) l.length _
  (Ent.wk [0]) ⟨0, by omega, by omega, rfl⟩ ?_
 rintro n s ⟨i, hi, rfl, rfl⟩ K hK
 rcases Nat.lt_or_ge i l.length with hlt | hge
 ·have hdi : decide ((i : Int) < l.length) = true := by simpa using hlt
  simp (maxSteps := 2000000) only [go_sem, seval, hdi, getD_map hlt, encQueue, D.flat, wrap_succ hlt (le20 hl)]
  first | refine ⟨⟨by omega, by omega⟩, hlt, ?_⟩ | refine ⟨by omega, hlt, ?_⟩
  refine CallK_pure e71 (c71 l[i] (by have := sum_get sizQueue hlt; unfold sizQueueS at h; omega)) rfl ?_
  simp (maxSteps := 2000000) only [go_sem, seval, encQueue, D.flat, wrap_succ hlt (le20 hl)]
  repeat' ((with_reducible show _ /\ _); apply And.intro)
  all_goals first
   | (apply hK
      refine ⟨l.length - (i + 1), _, by omega, Ent.weak (ids := [0]) (by simp) rfl (by simp) ?_ ?_ ?_, i + 1, by omega, rfl, rfl⟩
      ·simp only [objsLe, St.obj, find, AObj.renF, if_true, Option.getD_some, List.getD_cons_zero, and_true]
       rw [<- take_set encQueue l _ hlt]
       exact ⟨by simp, Or.inr rfl⟩
      ·simp [objsLe, envLe, find, St.obj, AObj.renF, AV.renF, AV.renF1, Leaf.renF, LowAll, AV.Low, AV.Low1, Leaf.Low, AObj.Low, Ptr.renF, Ptr.Low]
      ·simp [objsLe, envLe, find, St.obj, AObj.renF, AV.renF, AV.renF1, Leaf.renF, LowAll, AV.Low, AV.Low1, Leaf.Low, AObj.Low, Ptr.renF, Ptr.Low])
   | omega
   | decide
   | (simp; done)
   | (simp; omega)
   | trivial
 ·have hge' : i = l.length := by omega
  subst hge'
  have hdi : decide ((l.length : Int) < l.length) = false := by simp
  refine sv3 ?_
  apply hK
  refine evl ?_
  refine Fin.nt results32 [0] ?_ ?_ ?_ <;> try trivial
  all_goals simp [objsLe, St.obj, find, AObj.renF]
theorem c37 (l l' : List Queue) (h0 : sizQueueS l <= 1048576) (h0' : sizQueueS l' <= 1048576) : Ctr prog 37 [.one (.dat (.sl 1 (l.map encQueue))), .one (.dat (.sl 1 (l'.map encQueue)))] [] (.one (.dat (.bool (decide (l = l'))))) [] := by
 have hl : l.length <= maxLen := (lokQueueS (by omega)).1
 have hl' : l'.length <= maxLen := (lokQueueS (by omega)).1
 refine Ctr.bd mixed func37 rfl ?_
 refine evl ?_
 constructor <;> intro h
 ·have hne : l.length ≠ l'.length := by simp at h; omega
  refine Fin.nt results37 [] ?_ ?_ ?_ <;> try trivial
  (refine rsl ?_; try exact .intro)
  symm; rw [decide_eq_false_iff_not]
  intro e; exact hne (by rw [e])
 have hlen : l.length = l'.length := by simp at h; omega
 refine LoopK_intro (fun n s => ∃ i : Nat, i <= l.length /\ n = l.length - i /\ l.take i = l'.take i /\ s = mkSt [(5, .one (.dat (.int .i64 i))), (1, .one (.dat (.sl 1 (l'.map encQueue)))), (0, .one (.dat (.sl 1 (l.map encQueue))))] []) l.length _
  (Ent.wk []) ⟨0, by omega, by omega, rfl, rfl⟩ ?_
 rintro n s ⟨i, hi, rfl, ht, rfl⟩ K hK
 rcases Nat.lt_or_ge i l.length with hlt | hge
 ·have hdi : decide ((i : Int) < l.length) = true := by simpa using hlt
  have hlt' : i < l'.length := by omega
  simp (maxSteps := 2000000) only [go_sem, seval, hdi, wrap_succ hlt hl, getD_map hlt, getD_map hlt', encQueue]
  refine ⟨⟨by omega, by omega⟩, hlt, ⟨by omega, by omega⟩, hlt', ?_⟩
  first
   | refine CCallK_intro e85 (fun _ => ⟨trivial, c85 l[i] l'[i] (by have := sum_get sizQueue hlt; unfold sizQueueS at h0; omega) (by have := sum_get sizQueue hlt'; unfold sizQueueS at h0'; omega)⟩) rfl rfl ?_
   | refine Or.inl (CCallK_intro e85 (fun _ => ⟨trivial, c85 l[i] l'[i] (by have := sum_get sizQueue hlt; unfold sizQueueS at h0; omega) (by have := sum_get sizQueue hlt'; unfold sizQueueS at h0'; omega)⟩) rfl rfl ?_)
  refine sv1 ?_
  constructor <;> intro h
  ·apply hK
   refine evl ?_
   refine Fin.nt results37 [] ?_ ?_ ?_ <;> try trivial
   (refine rsl ?_; try exact .intro)
   symm; rw [decide_eq_false_iff_not]
   rintro rfl; simp at h
  ·apply hK
   have he : l[i] = l'[i] := by simpa using h
   exact ⟨l.length - (i + 1), _, by omega, Ent.wk [], i + 1, by omega, rfl, by rw [List.take_succ_eq_append_getElem hlt, List.take_succ_eq_append_getElem hlt', ht, he], rfl⟩
 ·have hge' : i = l.length := by omega
  subst hge'
  have hdi : decide ((l.length : Int) < l.length) = false := by simp
  refine sv3 ?_
  apply hK
  refine evl ?_
  refine Fin.nt results37 [] ?_ ?_ ?_ <;> try trivial
  (refine rsl ?_; try exact .intro)
  symm; rw [decide_eq_true_iff]
  rw [List.take_of_length_le (Nat.le_refl _), List.take_of_length_le (by omega)] at ht
  exact ht
structure Job where
 Busy : Bool
 Op : Op
 Serial : Int
 Pc : Int
 Sub : Sub
 H : Int
 Old : Int
 Val : Int
 Code : Int
 deriving DecidableEq
def encJob (x : Job) : List D := [.bool x.Busy, .int .i64 x.Op.Kind, .int .i64 x.Op.Cell, .int .i64 x.Op.Size, .int .i64 x.Op.Val, .int .i64 x.Serial, .int .i64 x.Pc, .int .i64 x.Sub.Kind, .int .i64 x.Sub.A, .int .i64 x.Sub.Pc, .int .i64 x.Sub.E, .int .i64 x.Sub.Row, .int .i64 x.Sub.B, .int .i64 x.Sub.H, .int .i64 x.Sub.Out, .int .i64 x.Sub.Code, .bool x.Sub.Done, .int .i64 x.H, .int .i64 x.Old, .int .i64 x.Val, .int .i64 x.Code]
def Job.wf (x : Job) : Prop := x.Op.wf /\ (Lit.int .i64 x.Serial).wf = true /\ (Lit.int .i64 x.Pc).wf = true /\ x.Sub.wf /\ (Lit.int .i64 x.H).wf = true /\ (Lit.int .i64 x.Old).wf = true /\ (Lit.int .i64 x.Val).wf = true /\ (Lit.int .i64 x.Code).wf = true /\ True
theorem Job.eq_iff (x y : Job) : x = y ↔ x.Busy = y.Busy /\ x.Op = y.Op /\ x.Serial = y.Serial /\ x.Pc = y.Pc /\ x.Sub = y.Sub /\ x.H = y.H /\ x.Old = y.Old /\ x.Val = y.Val /\ x.Code = y.Code := by cases x; cases y; simp
def Job.lok (x : Job) : Prop := True
def zeroJob : Job := ⟨false, zeroOp, 0, 0, zeroSub, 0, 0, 0, 0⟩
theorem decJob (n : Nat) (ds : List D) (h : WT prog n 121 ds) : ∃ x : Job, ds = encJob x /\ x.wf /\ x.lok := by
 cases n with
 | zero => exact h.elim
 | succ n =>
  unfold WT at h
  rw [underlying121] at h
  simp only [List.toList_toArray, List.map_cons, List.map_nil, WTs] at h
  obtain ⟨_, _, rfl, h0, ⟨_, _, rfl, h1, ⟨_, _, rfl, h2, ⟨_, _, rfl, h3, ⟨_, _, rfl, h4, ⟨_, _, rfl, h5, ⟨_, _, rfl, h6, ⟨_, _, rfl, h7, ⟨_, _, rfl, h8, rfl⟩⟩⟩⟩⟩⟩⟩⟩⟩ := h
  obtain ⟨x0, rfl⟩ := decBool underlying4 h0
  obtain ⟨x1, rfl, w1, k1⟩ := decOp _ _ h1
  obtain ⟨x2, rfl, w2⟩ := decInt underlying3 h2
  obtain ⟨x3, rfl, w3⟩ := decInt underlying3 h3
  obtain ⟨x4, rfl, w4, k4⟩ := decSub _ _ h4
  obtain ⟨x5, rfl, w5⟩ := decInt underlying3 h5
  obtain ⟨x6, rfl, w6⟩ := decInt underlying3 h6
  obtain ⟨x7, rfl, w7⟩ := decInt underlying3 h7
  obtain ⟨x8, rfl, w8⟩ := decInt underlying3 h8
  exact ⟨⟨x0, x1, x2, x3, x4, x5, x6, x7, x8⟩, rfl, ⟨w1, w2, w3, w4, w5, w6, w7, w8, trivial⟩, trivial⟩
theorem c70 (x : Job) : Ctr prog 70 [.agg ((encJob x).map .dat)] [] (.agg [.dat (.bool x.Busy), .dat (.int .i64 x.Op.Kind), .dat (.int .i64 x.Op.Cell), .dat (.int .i64 x.Op.Size), .dat (.int .i64 x.Op.Val), .dat (.int .i64 x.Serial), .dat (.int .i64 x.Pc), .dat (.int .i64 x.Sub.Kind), .dat (.int .i64 x.Sub.A), .dat (.int .i64 x.Sub.Pc), .dat (.int .i64 x.Sub.E), .dat (.int .i64 x.Sub.Row), .dat (.int .i64 x.Sub.B), .dat (.int .i64 x.Sub.H), .dat (.int .i64 x.Sub.Out), .dat (.int .i64 x.Sub.Code), .dat (.bool x.Sub.Done), .dat (.int .i64 x.H), .dat (.int .i64 x.Old), .dat (.int .i64 x.Val), .dat (.int .i64 x.Code)]) [] := by
 simp only [encJob, List.map_cons, List.map_nil]
 refine Ctr.bd mixed func70 rfl ?_
 refine evl ?_
 refine CallK_pure e127 (c127 x.Op) rfl ?_
 simp (maxSteps := 2000000) only [go_sem, seval, encOp]
 refine CallK_pure e128 (c128 x.Sub) rfl ?_
 simp (maxSteps := 2000000) only [go_sem, seval, encSub]
 first | ((refine Fin.nt results70 [] ?_ ?_ ?_ <;> try trivial) <;> (first | rfl | exact entd); done) | ((refine Fin.nt results70 [] ?_ ?_ ?_ <;> try trivial) <;> (first | rfl | exact entd); done) | ((refine Fin.nt results70 [] ?_ ?_ ?_ <;> try trivial) <;> (first | rfl | exact entd); done) | ((refine Fin.nt results70 [] ?_ ?_ ?_ <;> try trivial) <;> (first | rfl | exact entd); done) | ((refine Fin.nt results70 [] ?_ ?_ ?_ <;> try trivial) <;> (first | rfl | exact entd); done) | ((refine Fin.nt results70 [] ?_ ?_ ?_ <;> try trivial) <;> (first | rfl | exact entd); done)
theorem c84 (x y : Job) : Ctr prog 84 [.agg ((encJob x).map .dat), .agg ((encJob y).map .dat)] [] (.one (.dat (.bool (decide (x = y))))) [] := by
 simp only [encJob, List.map_cons, List.map_nil]
 refine Ctr.bd mixed func84 rfl ?_
 refine evl ?_
 constructor <;> intro h
 ·refine Fin.nt results84 [] ?_ ?_ ?_ <;> try trivial
  (refine rsl ?_; try exact .intro)
  simp_all [Job.eq_iff]
 have eBusy := h; clear h
 refine ck e150 (c150 x.Op y.Op) rfl ?_
 refine evl ?_
 constructor <;> intro h
 ·refine Fin.nt results84 [] ?_ ?_ ?_ <;> try trivial
  (refine rsl ?_; try exact .intro)
  simp_all [Job.eq_iff]
 have eOp := h; clear h
 constructor <;> intro h
 ·refine Fin.nt results84 [] ?_ ?_ ?_ <;> try trivial
  (refine rsl ?_; try exact .intro)
  simp_all [Job.eq_iff]
 have eSerial := h; clear h
 constructor <;> intro h
 ·refine Fin.nt results84 [] ?_ ?_ ?_ <;> try trivial
  (refine rsl ?_; try exact .intro)
  simp_all [Job.eq_iff]
 have ePc := h; clear h
 refine ck e151 (c151 x.Sub y.Sub) rfl ?_
 refine evl ?_
 constructor <;> intro h
 ·refine Fin.nt results84 [] ?_ ?_ ?_ <;> try trivial
  (refine rsl ?_; try exact .intro)
  simp_all [Job.eq_iff]
 have eSub := h; clear h
 constructor <;> intro h
 ·refine Fin.nt results84 [] ?_ ?_ ?_ <;> try trivial
  (refine rsl ?_; try exact .intro)
  simp_all [Job.eq_iff]
 have eH := h; clear h
 constructor <;> intro h
 ·refine Fin.nt results84 [] ?_ ?_ ?_ <;> try trivial
  (refine rsl ?_; try exact .intro)
  simp_all [Job.eq_iff]
 have eOld := h; clear h
 constructor <;> intro h
 ·refine Fin.nt results84 [] ?_ ?_ ?_ <;> try trivial
  (refine rsl ?_; try exact .intro)
  simp_all [Job.eq_iff]
 have eVal := h; clear h
 constructor <;> intro h
 ·refine Fin.nt results84 [] ?_ ?_ ?_ <;> try trivial
  (refine rsl ?_; try exact .intro)
  simp_all [Job.eq_iff]
 have eCode := h; clear h
 refine Fin.nt results84 [] ?_ ?_ ?_ <;> try trivial
 (refine rsl ?_; try exact .intro)
 simp_all [Job.eq_iff]
theorem c25 (rows : List (List D)) (left : Int) (h0 : 0 <= left) (h1 : left <= 1048576) (hl : rows.length <= maxLen) : Ctr prog 25 [.one (.dat (.sl 21 rows)), .one (.dat (.int .i64 left))] [] (.one (.dat (.int .i64 (szL left rows.length)))) [] := by
 have hw := szL_wrap h0 h1 hl
 refine Ctr.bd mixed func25 rfl ?_
 refine sv0 ?_
 repeat' first
  | ((with_reducible show Abs.Fin _ _ _ _ _ _); refine Fin.nt results25 [] ?_ ?_ ?_ <;> try trivial)
  | with_reducible intro h
  | ((with_reducible show _ /\ _); apply And.intro)
 all_goals try ((refine rsl ?_; try exact .intro))
 all_goals simp_all [szL]
 all_goals omega
theorem c31 (l : List Job) (h : l.length <= 1048576) : Ctr prog 31 [.one (.dat (.sl 21 (l.map encJob)))] [] (.one (.own 0)) [.vec 21 true (l.map encJob)] := by
 have hl : l.length <= 1048576 := by omega
 refine Ctr.bd mixed func31 rfl ?_
 refine evl ?_
 refine ⟨by omega, ?_⟩
 refine LoopK_intro (fun n s => ∃ i : Nat, i <= l.length /\ n = l.length - i /\ s = mkSt [(4, .one (.dat (.int .i64 i))), (3, .one (.own 0)), (0, .one (.dat (.sl 21 (l.map encJob))))]
   [.vec 21 true ((l.take i).map encJob ++ List.replicate (l.length - i) [.bool false, .int .i64 0, .int .i64 0, .int .i64 0, .int .i64 0, .int .i64 0, .int .i64 0, .int .i64 0, .int .i64 0, .int .i64 0, .int .i64 0, .int .i64 0, .int .i64 0, .int .i64 0, .int .i64 0, .int .i64 0, .bool false, .int .i64 0, .int .i64 0, .int .i64 0, .int .i64 0])]) l.length _
  (Ent.wk [0]) ⟨0, by omega, by omega, rfl⟩ ?_
 rintro n s ⟨i, hi, rfl, rfl⟩ K hK
 rcases Nat.lt_or_ge i l.length with hlt | hge
 ·have hdi : decide ((i : Int) < l.length) = true := by simpa using hlt
  simp (maxSteps := 2000000) only [go_sem, seval, hdi, getD_map hlt, encJob, D.flat, wrap_succ hlt (le20 hl)]
  first | refine ⟨⟨by omega, by omega⟩, hlt, ?_⟩ | refine ⟨by omega, hlt, ?_⟩
  refine CallK_pure e70 (c70 l[i]) rfl ?_
  simp (maxSteps := 2000000) only [go_sem, seval, encJob, D.flat, wrap_succ hlt (le20 hl)]
  repeat' ((with_reducible show _ /\ _); apply And.intro)
  all_goals first
   | (apply hK
      refine ⟨l.length - (i + 1), _, by omega, Ent.weak (ids := [0]) (by simp) rfl (by simp) ?_ ?_ ?_, i + 1, by omega, rfl, rfl⟩
      ·simp only [objsLe, St.obj, find, AObj.renF, if_true, Option.getD_some, List.getD_cons_zero, and_true]
       rw [<- take_set encJob l _ hlt]
       exact ⟨by simp, Or.inr rfl⟩
      ·simp [objsLe, envLe, find, St.obj, AObj.renF, AV.renF, AV.renF1, Leaf.renF, LowAll, AV.Low, AV.Low1, Leaf.Low, AObj.Low, Ptr.renF, Ptr.Low]
      ·simp [objsLe, envLe, find, St.obj, AObj.renF, AV.renF, AV.renF1, Leaf.renF, LowAll, AV.Low, AV.Low1, Leaf.Low, AObj.Low, Ptr.renF, Ptr.Low])
   | omega
   | decide
   | (simp; done)
   | (simp; omega)
   | trivial
 ·have hge' : i = l.length := by omega
  subst hge'
  have hdi : decide ((l.length : Int) < l.length) = false := by simp
  refine sv3 ?_
  apply hK
  refine evl ?_
  refine Fin.nt results31 [0] ?_ ?_ ?_ <;> try trivial
  all_goals simp [objsLe, St.obj, find, AObj.renF]
theorem c36 (l l' : List Job) (hl : l.length <= maxLen) (hl' : l'.length <= maxLen) : Ctr prog 36 [.one (.dat (.sl 21 (l.map encJob))), .one (.dat (.sl 21 (l'.map encJob)))] [] (.one (.dat (.bool (decide (l = l'))))) [] := by
 refine Ctr.bd mixed func36 rfl ?_
 refine evl ?_
 constructor <;> intro h
 ·have hne : l.length ≠ l'.length := by simp at h; omega
  refine Fin.nt results36 [] ?_ ?_ ?_ <;> try trivial
  (refine rsl ?_; try exact .intro)
  symm; rw [decide_eq_false_iff_not]
  intro e; exact hne (by rw [e])
 have hlen : l.length = l'.length := by simp at h; omega
 refine LoopK_intro (fun n s => ∃ i : Nat, i <= l.length /\ n = l.length - i /\ l.take i = l'.take i /\ s = mkSt [(5, .one (.dat (.int .i64 i))), (1, .one (.dat (.sl 21 (l'.map encJob)))), (0, .one (.dat (.sl 21 (l.map encJob))))] []) l.length _
  (Ent.wk []) ⟨0, by omega, by omega, rfl, rfl⟩ ?_
 rintro n s ⟨i, hi, rfl, ht, rfl⟩ K hK
 rcases Nat.lt_or_ge i l.length with hlt | hge
 ·have hdi : decide ((i : Int) < l.length) = true := by simpa using hlt
  have hlt' : i < l'.length := by omega
  simp (maxSteps := 2000000) only [go_sem, seval, hdi, wrap_succ hlt hl, getD_map hlt, getD_map hlt', encJob]
  refine ⟨⟨by omega, by omega⟩, hlt, ⟨by omega, by omega⟩, hlt', ?_⟩
  first
   | refine CCallK_intro e84 (fun _ => ⟨trivial, c84 l[i] l'[i]⟩) rfl rfl ?_
   | refine Or.inl (CCallK_intro e84 (fun _ => ⟨trivial, c84 l[i] l'[i]⟩) rfl rfl ?_)
  refine sv1 ?_
  constructor <;> intro h
  ·apply hK
   refine evl ?_
   refine Fin.nt results36 [] ?_ ?_ ?_ <;> try trivial
   (refine rsl ?_; try exact .intro)
   symm; rw [decide_eq_false_iff_not]
   rintro rfl; simp at h
  ·apply hK
   have he : l[i] = l'[i] := by simpa using h
   exact ⟨l.length - (i + 1), _, by omega, Ent.wk [], i + 1, by omega, rfl, by rw [List.take_succ_eq_append_getElem hlt, List.take_succ_eq_append_getElem hlt', ht, he], rfl⟩
 ·have hge' : i = l.length := by omega
  subst hge'
  have hdi : decide ((l.length : Int) < l.length) = false := by simp
  refine sv3 ?_
  apply hK
  refine evl ?_
  refine Fin.nt results36 [] ?_ ?_ ?_ <;> try trivial
  (refine rsl ?_; try exact .intro)
  symm; rw [decide_eq_true_iff]
  rw [List.take_of_length_le (Nat.le_refl _), List.take_of_length_le (by omega)] at ht
  exact ht
def Ev.lok (x : Ev) : Prop := True
def zeroEv : Ev := ⟨0, 0, 0, 0, 0, 0, 0⟩
theorem decEv (n : Nat) (ds : List D) (h : WT prog n 126 ds) : ∃ x : Ev, ds = encEv x /\ x.wf /\ x.lok := by
 cases n with
 | zero => exact h.elim
 | succ n =>
  unfold WT at h
  rw [underlying126] at h
  simp only [List.toList_toArray, List.map_cons, List.map_nil, WTs] at h
  obtain ⟨_, _, rfl, h0, ⟨_, _, rfl, h1, ⟨_, _, rfl, h2, ⟨_, _, rfl, h3, ⟨_, _, rfl, h4, ⟨_, _, rfl, h5, ⟨_, _, rfl, h6, rfl⟩⟩⟩⟩⟩⟩⟩ := h
  obtain ⟨x0, rfl, w0⟩ := decInt underlying3 h0
  obtain ⟨x1, rfl, w1⟩ := decInt underlying3 h1
  obtain ⟨x2, rfl, w2⟩ := decInt underlying3 h2
  obtain ⟨x3, rfl, w3⟩ := decInt underlying3 h3
  obtain ⟨x4, rfl, w4⟩ := decInt underlying3 h4
  obtain ⟨x5, rfl, w5⟩ := decInt underlying3 h5
  obtain ⟨x6, rfl, w6⟩ := decInt underlying3 h6
  exact ⟨⟨x0, x1, x2, x3, x4, x5, x6⟩, rfl, ⟨w0, w1, w2, w3, w4, w5, w6, trivial⟩, trivial⟩
structure Shelf where
 Base : Base
 Cells : List Int
 Jobs : List Job
 Todo : List Queue
 Log : List Ev
 Serial : Int
 deriving DecidableEq
def encShelf (x : Shelf) : List D := [.sl 1 (x.Base.Mem.Heap.Bytes.map encI), .sl 1 (x.Base.Mem.Heap.Class.map encI), .sl 1 (x.Base.Mem.Lists.Global.map encSList), .sl 1 (x.Base.Mem.Lists.Own.map encSList), .int .i64 x.Base.Clock.Epoch, .sl 4 (x.Base.Clock.Pins.map encPin), .sl 1 (x.Base.Limbo.map encLList), .sl 1 (x.Base.Haz.map encI), .sl 1 (x.Cells.map encI), .sl 21 (x.Jobs.map encJob), .sl 1 (x.Todo.map encQueue), .sl 7 (x.Log.map encEv), .int .i64 x.Serial]
def Shelf.wf (x : Shelf) : Prop := x.Base.wf /\ (∀ y ∈ x.Cells, (Lit.int .i64 y).wf = true) /\ (∀ y ∈ x.Jobs, y.wf) /\ (∀ y ∈ x.Todo, y.wf) /\ (∀ y ∈ x.Log, y.wf) /\ (Lit.int .i64 x.Serial).wf = true /\ True
theorem Shelf.eq_iff (x y : Shelf) : x = y ↔ x.Base = y.Base /\ x.Cells = y.Cells /\ x.Jobs = y.Jobs /\ x.Todo = y.Todo /\ x.Log = y.Log /\ x.Serial = y.Serial := by cases x; cases y; simp
def Shelf.lok (x : Shelf) : Prop := x.Base.lok /\ x.Cells.length <= maxLen /\ x.Jobs.length <= maxLen /\ x.Todo.length <= maxLen /\ (∀ y ∈ x.Todo, y.lok) /\ x.Log.length <= maxLen /\ True
def sizShelf (x : Shelf) : Nat := sizBase x.Base + x.Cells.length + x.Jobs.length + sizQueueS x.Todo + x.Log.length
def sizShelfS (l : List Shelf) : Nat := l.length + (l.map sizShelf).sum
def zeroShelf : Shelf := ⟨zeroBase, [], [], [], [], 0⟩
theorem decShelf (n : Nat) (ds : List D) (h : WT prog n 40 ds) : ∃ x : Shelf, ds = encShelf x /\ x.wf /\ x.lok := by
 cases n with
 | zero => exact h.elim
 | succ n =>
  unfold WT at h
  rw [underlying40] at h
  simp only [List.toList_toArray, List.map_cons, List.map_nil, WTs] at h
  obtain ⟨_, _, rfl, h0, ⟨_, _, rfl, h1, ⟨_, _, rfl, h2, ⟨_, _, rfl, h3, ⟨_, _, rfl, h4, ⟨_, _, rfl, h5, rfl⟩⟩⟩⟩⟩⟩ := h
  obtain ⟨x0, rfl, w0, k0⟩ := decBase _ _ h0
  obtain ⟨x1, rfl, c1, w1⟩ := decSl (enc := encI) (q := fun x => (Lit.int .i64 x).wf = true) underlying22 tc_3 (fun _ _ h => decInt underlying3 h) h1
  obtain ⟨x2, rfl, c2, w2⟩ := decSl (enc := encJob) (q := fun x => x.wf /\ x.lok) underlying36 tc_121 decJob h2
  obtain ⟨x3, rfl, c3, w3⟩ := decSl (enc := encQueue) (q := fun x => x.wf /\ x.lok) underlying37 tc_109 decQueue h3
  obtain ⟨x4, rfl, c4, w4⟩ := decSl (enc := encEv) (q := fun x => x.wf /\ x.lok) underlying38 tc_126 decEv h4
  obtain ⟨x5, rfl, w5⟩ := decInt underlying3 h5
  exact ⟨⟨x0, x1, x2, x3, x4, x5⟩, rfl, ⟨w0, w1, fun y hy => (w2 y hy).1, fun y hy => (w3 y hy).1, fun y hy => (w4 y hy).1, w5, trivial⟩, ⟨k0, c1, c2, c3, fun y hy => (w3 y hy).2, c4, trivial⟩⟩
theorem c7 (x : Shelf) (hk : x.lok) (left : Int) (h0 : 0 <= left) (h1 : left <= 1048576) : Ctr prog 7 [.agg ((encShelf x).map .dat), .one (.dat (.int .i64 left))] [] (.one (.dat (.int .i64 (szL left (sizShelf x))))) [] := by
 simp only [encShelf, List.map_cons, List.map_nil]
 unfold sizShelf
 refine Ctr.bd mixed func7 rfl ?_
 refine evl ?_
 obtain ⟨kBase, kCells, kJobs, kTodo, qTodo, kLog, _⟩ := hk
 refine CallK_pure e23 (c23 x.Base kBase left h0 h1) rfl ?_
 refine evl ?_
 constructor <;> intro h
 ·refine Fin.nt results7 [] ?_ ?_ ?_ <;> try trivial
  (refine rsl ?_; try exact .intro)
  try simp only [List.length_map] at h
  exact szL_bad (h) (by omega)
 try simp only [List.length_map] at h
 have a0 : decide (szL left (sizBase x.Base) < 0) = false := h
 obtain ⟨_, _, g0, u0⟩ := szL_le h1 a0
 try simp only [List.length_map]
 refine CallK_pure e24 (c24 (x.Cells.map encI) (szL left (sizBase x.Base)) g0 u0 (by simpa using kCells)) rfl ?_
 refine evl ?_
 constructor <;> intro h
 ·refine Fin.nt results7 [] ?_ ?_ ?_ <;> try trivial
  (refine rsl ?_; try exact .intro)
  try simp only [List.length_map] at h
  exact szL_bad (szL_at h0 a0 ▸ h) (by omega)
 try simp only [List.length_map] at h
 have a1 : decide (szL left (sizBase x.Base + x.Cells.length) < 0) = false := szL_at h0 a0 ▸ h
 obtain ⟨_, _, g1, u1⟩ := szL_le h1 a1
 try simp only [List.length_map]
 rw [szL_at h0 a0]
 refine CallK_pure e25 (c25 (x.Jobs.map encJob) (szL left (sizBase x.Base + x.Cells.length)) g1 u1 (by simpa using kJobs)) rfl ?_
 refine evl ?_
 constructor <;> intro h
 ·refine Fin.nt results7 [] ?_ ?_ ?_ <;> try trivial
  (refine rsl ?_; try exact .intro)
  try simp only [List.length_map] at h
  exact szL_bad (szL_at h0 a1 ▸ h) (by omega)
 try simp only [List.length_map] at h
 have a2 : decide (szL left (sizBase x.Base + x.Cells.length + x.Jobs.length) < 0) = false := szL_at h0 a1 ▸ h
 obtain ⟨_, _, g2, u2⟩ := szL_le h1 a2
 try simp only [List.length_map]
 rw [szL_at h0 a1]
 refine CallK_pure e26 (c26 x.Todo kTodo qTodo (szL left (sizBase x.Base + x.Cells.length + x.Jobs.length)) g2 u2) rfl ?_
 refine evl ?_
 constructor <;> intro h
 ·refine Fin.nt results7 [] ?_ ?_ ?_ <;> try trivial
  (refine rsl ?_; try exact .intro)
  try simp only [List.length_map] at h
  exact szL_bad (szL_at h0 a2 ▸ h) (by omega)
 try simp only [List.length_map] at h
 have a3 : decide (szL left (sizBase x.Base + x.Cells.length + x.Jobs.length + sizQueueS x.Todo) < 0) = false := szL_at h0 a2 ▸ h
 obtain ⟨_, _, g3, u3⟩ := szL_le h1 a3
 try simp only [List.length_map]
 rw [szL_at h0 a2]
 refine CallK_pure e27 (c27 (x.Log.map encEv) (szL left (sizBase x.Base + x.Cells.length + x.Jobs.length + sizQueueS x.Todo)) g3 u3 (by simpa using kLog)) rfl ?_
 refine evl ?_
 constructor <;> intro h
 ·refine Fin.nt results7 [] ?_ ?_ ?_ <;> try trivial
  (refine rsl ?_; try exact .intro)
  try simp only [List.length_map] at h
  exact szL_bad (szL_at h0 a3 ▸ h) (by omega)
 try simp only [List.length_map] at h
 have a4 : decide (szL left (sizBase x.Base + x.Cells.length + x.Jobs.length + sizQueueS x.Todo + x.Log.length) < 0) = false := szL_at h0 a3 ▸ h
 refine Fin.nt results7 [] ?_ ?_ ?_ <;> try trivial
 all_goals try ((refine rsl ?_; try exact .intro))
 all_goals try simp only [List.length_map]
 all_goals try exact szL_at h0 a3
theorem c9 (x : Shelf) (h : sizShelf x <= 1048576) : Ctr prog 9 [.agg ((encShelf x).map .dat)] [] (.agg [.own 0, .own 1, .own 2, .own 3, .dat (.int .i64 x.Base.Clock.Epoch), .own 4, .own 5, .own 6, .own 7, .own 8, .own 9, .own 10, .dat (.int .i64 x.Serial)]) [.vec 1 true (x.Base.Mem.Heap.Bytes.map encI), .vec 1 true (x.Base.Mem.Heap.Class.map encI), .vec 1 true (x.Base.Mem.Lists.Global.map encSList), .vec 1 true (x.Base.Mem.Lists.Own.map encSList), .vec 4 true (x.Base.Clock.Pins.map encPin), .vec 1 true (x.Base.Limbo.map encLList), .vec 1 true (x.Base.Haz.map encI), .vec 1 true (x.Cells.map encI), .vec 21 true (x.Jobs.map encJob), .vec 1 true (x.Todo.map encQueue), .vec 7 true (x.Log.map encEv)] := by
 simp only [encShelf, List.map_cons, List.map_nil]
 unfold sizShelf at h
 refine Ctr.bd mixed func9 rfl ?_
 refine evl ?_
 refine CallK_pure e29 (c29 x.Base (by omega)) rfl ?_
 refine evl ?_
 refine CallK_pure e30 (c30 x.Cells (by omega)) rfl ?_
 refine evl ?_
 refine CallK_pure e31 (c31 x.Jobs (by omega)) rfl ?_
 refine evl ?_
 refine CallK_pure e32 (c32 x.Todo (by omega)) rfl ?_
 refine evl ?_
 refine CallK_pure e33 (c33 x.Log (by omega)) rfl ?_
 refine evl ?_
 first | ((refine Fin.nt results9 [3, 4, 5, 6, 7, 8, 9, 10, 11, 12, 13] ?_ ?_ ?_ <;> try trivial) <;> (first | rfl | exact entd); done) | ((refine Fin.nt results9 [2, 3, 4, 5, 6, 7, 8, 9, 10, 11, 12] ?_ ?_ ?_ <;> try trivial) <;> (first | rfl | exact entd); done) | ((refine Fin.nt results9 [1, 2, 3, 4, 5, 6, 7, 8, 9, 10, 11] ?_ ?_ ?_ <;> try trivial) <;> (first | rfl | exact entd); done) | ((refine Fin.nt results9 [0, 1, 2, 3, 4, 5, 6, 7, 8, 9, 10] ?_ ?_ ?_ <;> try trivial) <;> (first | rfl | exact entd); done) | ((refine Fin.nt results9 [4, 5, 6, 7, 8, 9, 10, 11, 12, 13, 14] ?_ ?_ ?_ <;> try trivial) <;> (first | rfl | exact entd); done) | ((refine Fin.nt results9 [5, 6, 7, 8, 9, 10, 11, 12, 13, 14, 15] ?_ ?_ ?_ <;> try trivial) <;> (first | rfl | exact entd); done)
theorem c12 (x y : Shelf) (hx : sizShelf x <= 1048576) (hy : sizShelf y <= 1048576) : Ctr prog 12 [.agg ((encShelf x).map .dat), .agg ((encShelf y).map .dat)] [] (.one (.dat (.bool (decide (x = y))))) [] := by
 simp only [encShelf, List.map_cons, List.map_nil]
 unfold sizShelf at hx hy
 have hm : maxLen = 9223372036854775807 := rfl
 refine Ctr.bd mixed func12 rfl ?_
 refine evl ?_
 refine ck e35 (c35 x.Base y.Base (by omega) (by omega)) rfl ?_
 refine evl ?_
 constructor <;> intro h
 ·refine Fin.nt results12 [] ?_ ?_ ?_ <;> try trivial
  (refine rsl ?_; try exact .intro)
  simp_all [Shelf.eq_iff]
 have eBase := h; clear h
 refine ck e11 (c11 x.Cells y.Cells (by omega) (by omega)) rfl ?_
 refine evl ?_
 constructor <;> intro h
 ·refine Fin.nt results12 [] ?_ ?_ ?_ <;> try trivial
  (refine rsl ?_; try exact .intro)
  simp_all [Shelf.eq_iff]
 have eCells := h; clear h
 refine ck e36 (c36 x.Jobs y.Jobs (by omega) (by omega)) rfl ?_
 refine evl ?_
 constructor <;> intro h
 ·refine Fin.nt results12 [] ?_ ?_ ?_ <;> try trivial
  (refine rsl ?_; try exact .intro)
  simp_all [Shelf.eq_iff]
 have eJobs := h; clear h
 refine ck e37 (c37 x.Todo y.Todo (by omega) (by omega)) rfl ?_
 refine evl ?_
 constructor <;> intro h
 ·refine Fin.nt results12 [] ?_ ?_ ?_ <;> try trivial
  (refine rsl ?_; try exact .intro)
  simp_all [Shelf.eq_iff]
 have eTodo := h; clear h
 refine ck e38 (c38 x.Log y.Log (by omega) (by omega)) rfl ?_
 refine evl ?_
 constructor <;> intro h
 ·refine Fin.nt results12 [] ?_ ?_ ?_ <;> try trivial
  (refine rsl ?_; try exact .intro)
  simp_all [Shelf.eq_iff]
 have eLog := h; clear h
 constructor <;> intro h
 ·refine Fin.nt results12 [] ?_ ?_ ?_ <;> try trivial
  (refine rsl ?_; try exact .intro)
  simp_all [Shelf.eq_iff]
 have eSerial := h; clear h
 refine Fin.nt results12 [] ?_ ?_ ?_ <;> try trivial
 (refine rsl ?_; try exact .intro)
 simp_all [Shelf.eq_iff]
def Node.lok (x : Node) : Prop := True
def zeroNode : Node := ⟨0, 0, 0⟩
structure Batch where
 Collect : Bool
 Cmds : List Cmd
 deriving DecidableEq
def encBatch (x : Batch) : List D := [.bool x.Collect, .sl 3 (x.Cmds.map encCmd)]
def Batch.wf (x : Batch) : Prop := (∀ y ∈ x.Cmds, y.wf) /\ True
theorem Batch.eq_iff (x y : Batch) : x = y ↔ x.Collect = y.Collect /\ x.Cmds = y.Cmds := by cases x; cases y; simp
def Batch.lok (x : Batch) : Prop := x.Cmds.length <= maxLen /\ True
def sizBatch (x : Batch) : Nat := x.Cmds.length
def sizBatchS (l : List Batch) : Nat := l.length + (l.map sizBatch).sum
def zeroBatch : Batch := ⟨false, []⟩
theorem Batch.lok_of {x : Batch} (h : sizBatch x <= 16777216) : x.lok := by
 have hm : maxLen = 9223372036854775807 := rfl
 unfold sizBatch at h
 exact ⟨by omega, trivial⟩
theorem lokBatchS {l : List Batch} (h : sizBatchS l <= 16777216) : l.length <= maxLen /\ ∀ y ∈ l, y.lok := by
 have hm : maxLen = 9223372036854775807 := rfl
 unfold sizBatchS at h
 exact ⟨by omega, fun y hy => Batch.lok_of (by have := sum_mem sizBatch hy; omega)⟩
structure TQueue where
 List : List Batch
 deriving DecidableEq
def encTQueue (x : TQueue) : List D := [.sl 2 (x.List.map encBatch)]
def TQueue.wf (x : TQueue) : Prop := (∀ y ∈ x.List, y.wf) /\ True
theorem TQueue.eq_iff (x y : TQueue) : x = y ↔ x.List = y.List := by cases x; cases y; simp
def TQueue.lok (x : TQueue) : Prop := x.List.length <= maxLen /\ (∀ y ∈ x.List, y.lok) /\ True
def sizTQueue (x : TQueue) : Nat := sizBatchS x.List
def sizTQueueS (l : List TQueue) : Nat := l.length + (l.map sizTQueue).sum
def zeroTQueue : TQueue := ⟨[]⟩
theorem TQueue.lok_of {x : TQueue} (h : sizTQueue x <= 16777216) : x.lok := by
 have hm : maxLen = 9223372036854775807 := rfl
 unfold sizTQueue at h
 unfold sizBatchS at h
 exact ⟨by omega, fun y hy => Batch.lok_of (by have := sum_mem sizBatch hy; omega), trivial⟩
theorem lokTQueueS {l : List TQueue} (h : sizTQueueS l <= 16777216) : l.length <= maxLen /\ ∀ y ∈ l, y.lok := by
 have hm : maxLen = 9223372036854775807 := rfl
 unfold sizTQueueS at h
 exact ⟨by omega, fun y hy => TQueue.lok_of (by have := sum_mem sizTQueue hy; omega)⟩
structure TJob where
 Busy : Bool
 Batch : Batch
 Serial : Int
 Pc : Int
 At : Int
 K : Int
 Bkt : Int
 Ver : Int
 H : Int
 Prev : Int
 Node : Node
 Found : Bool
 Code : Int
 Sub : Sub
 Reads : List Seen
 Writes : List Write
 Res : List Res
 New : List Int
 Held : List Int
 Olds : List Int
 deriving DecidableEq
def encTJob (x : TJob) : List D := [.bool x.Busy, .bool x.Batch.Collect, .sl 3 (x.Batch.Cmds.map encCmd), .int .i64 x.Serial, .int .i64 x.Pc, .int .i64 x.At, .int .i64 x.K, .int .i64 x.Bkt, .int .i64 x.Ver, .int .i64 x.H, .int .i64 x.Prev, .int .i64 x.Node.Key, .int .i64 x.Node.Val, .int .i64 x.Node.Next, .bool x.Found, .int .i64 x.Code, .int .i64 x.Sub.Kind, .int .i64 x.Sub.A, .int .i64 x.Sub.Pc, .int .i64 x.Sub.E, .int .i64 x.Sub.Row, .int .i64 x.Sub.B, .int .i64 x.Sub.H, .int .i64 x.Sub.Out, .int .i64 x.Sub.Code, .bool x.Sub.Done, .sl 2 (x.Reads.map encSeen), .sl 3 (x.Writes.map encWrite), .sl 2 (x.Res.map encRes), .sl 1 (x.New.map encI), .sl 1 (x.Held.map encI), .sl 1 (x.Olds.map encI)]
def TJob.wf (x : TJob) : Prop := x.Batch.wf /\ (Lit.int .i64 x.Serial).wf = true /\ (Lit.int .i64 x.Pc).wf = true /\ (Lit.int .i64 x.At).wf = true /\ (Lit.int .i64 x.K).wf = true /\ (Lit.int .i64 x.Bkt).wf = true /\ (Lit.int .i64 x.Ver).wf = true /\ (Lit.int .i64 x.H).wf = true /\ (Lit.int .i64 x.Prev).wf = true /\ x.Node.wf /\ (Lit.int .i64 x.Code).wf = true /\ x.Sub.wf /\ (∀ y ∈ x.Reads, y.wf) /\ (∀ y ∈ x.Writes, y.wf) /\ (∀ y ∈ x.Res, y.wf) /\ (∀ y ∈ x.New, (Lit.int .i64 y).wf = true) /\ (∀ y ∈ x.Held, (Lit.int .i64 y).wf = true) /\ (∀ y ∈ x.Olds, (Lit.int .i64 y).wf = true) /\ True
theorem TJob.eq_iff (x y : TJob) : x = y ↔ x.Busy = y.Busy /\ x.Batch = y.Batch /\ x.Serial = y.Serial /\ x.Pc = y.Pc /\ x.At = y.At /\ x.K = y.K /\ x.Bkt = y.Bkt /\ x.Ver = y.Ver /\ x.H = y.H /\ x.Prev = y.Prev /\ x.Node = y.Node /\ x.Found = y.Found /\ x.Code = y.Code /\ x.Sub = y.Sub /\ x.Reads = y.Reads /\ x.Writes = y.Writes /\ x.Res = y.Res /\ x.New = y.New /\ x.Held = y.Held /\ x.Olds = y.Olds := by cases x; cases y; simp
def TJob.lok (x : TJob) : Prop := x.Batch.lok /\ x.Reads.length <= maxLen /\ x.Writes.length <= maxLen /\ x.Res.length <= maxLen /\ x.New.length <= maxLen /\ x.Held.length <= maxLen /\ x.Olds.length <= maxLen /\ True
def sizTJob (x : TJob) : Nat := sizBatch x.Batch + x.Reads.length + x.Writes.length + x.Res.length + x.New.length + x.Held.length + x.Olds.length
def sizTJobS (l : List TJob) : Nat := l.length + (l.map sizTJob).sum
def zeroTJob : TJob := ⟨false, zeroBatch, 0, 0, 0, 0, 0, 0, 0, 0, zeroNode, false, 0, zeroSub, [], [], [], [], [], []⟩
theorem TJob.lok_of {x : TJob} (h : sizTJob x <= 16777216) : x.lok := by
 have hm : maxLen = 9223372036854775807 := rfl
 unfold sizTJob at h
 exact ⟨Batch.lok_of (by omega), by omega, by omega, by omega, by omega, by omega, by omega, trivial⟩
theorem lokTJobS {l : List TJob} (h : sizTJobS l <= 16777216) : l.length <= maxLen /\ ∀ y ∈ l, y.lok := by
 have hm : maxLen = 9223372036854775807 := rfl
 unfold sizTJobS at h
 exact ⟨by omega, fun y hy => TJob.lok_of (by have := sum_mem sizTJob hy; omega)⟩
structure TEv where
 Kind : Int
 Who : Int
 Serial : Int
 Code : Int
 Cmds : List Cmd
 Res : List Res
 deriving DecidableEq
def encTEv (x : TEv) : List D := [.int .i64 x.Kind, .int .i64 x.Who, .int .i64 x.Serial, .int .i64 x.Code, .sl 3 (x.Cmds.map encCmd), .sl 2 (x.Res.map encRes)]
def TEv.wf (x : TEv) : Prop := (Lit.int .i64 x.Kind).wf = true /\ (Lit.int .i64 x.Who).wf = true /\ (Lit.int .i64 x.Serial).wf = true /\ (Lit.int .i64 x.Code).wf = true /\ (∀ y ∈ x.Cmds, y.wf) /\ (∀ y ∈ x.Res, y.wf) /\ True
theorem TEv.eq_iff (x y : TEv) : x = y ↔ x.Kind = y.Kind /\ x.Who = y.Who /\ x.Serial = y.Serial /\ x.Code = y.Code /\ x.Cmds = y.Cmds /\ x.Res = y.Res := by cases x; cases y; simp
def TEv.lok (x : TEv) : Prop := x.Cmds.length <= maxLen /\ x.Res.length <= maxLen /\ True
def sizTEv (x : TEv) : Nat := x.Cmds.length + x.Res.length
def sizTEvS (l : List TEv) : Nat := l.length + (l.map sizTEv).sum
def zeroTEv : TEv := ⟨0, 0, 0, 0, [], []⟩
theorem TEv.lok_of {x : TEv} (h : sizTEv x <= 16777216) : x.lok := by
 have hm : maxLen = 9223372036854775807 := rfl
 unfold sizTEv at h
 exact ⟨by omega, by omega, trivial⟩
theorem lokTEvS {l : List TEv} (h : sizTEvS l <= 16777216) : l.length <= maxLen /\ ∀ y ∈ l, y.lok := by
 have hm : maxLen = 9223372036854775807 := rfl
 unfold sizTEvS at h
 exact ⟨by omega, fun y hy => TEv.lok_of (by have := sum_mem sizTEv hy; omega)⟩
structure Table where
 Base : Base
 Bkts : List Bkt
 Jobs : List TJob
 Todo : List TQueue
 Log : List TEv
 Serial : Int
 deriving DecidableEq
def encTable (x : Table) : List D := [.sl 1 (x.Base.Mem.Heap.Bytes.map encI), .sl 1 (x.Base.Mem.Heap.Class.map encI), .sl 1 (x.Base.Mem.Lists.Global.map encSList), .sl 1 (x.Base.Mem.Lists.Own.map encSList), .int .i64 x.Base.Clock.Epoch, .sl 4 (x.Base.Clock.Pins.map encPin), .sl 1 (x.Base.Limbo.map encLList), .sl 1 (x.Base.Haz.map encI), .sl 3 (x.Bkts.map encBkt), .sl 32 (x.Jobs.map encTJob), .sl 1 (x.Todo.map encTQueue), .sl 6 (x.Log.map encTEv), .int .i64 x.Serial]
def Table.wf (x : Table) : Prop := x.Base.wf /\ (∀ y ∈ x.Bkts, y.wf) /\ (∀ y ∈ x.Jobs, y.wf) /\ (∀ y ∈ x.Todo, y.wf) /\ (∀ y ∈ x.Log, y.wf) /\ (Lit.int .i64 x.Serial).wf = true /\ True
theorem Table.eq_iff (x y : Table) : x = y ↔ x.Base = y.Base /\ x.Bkts = y.Bkts /\ x.Jobs = y.Jobs /\ x.Todo = y.Todo /\ x.Log = y.Log /\ x.Serial = y.Serial := by cases x; cases y; simp
def Table.lok (x : Table) : Prop := x.Base.lok /\ x.Bkts.length <= maxLen /\ x.Jobs.length <= maxLen /\ (∀ y ∈ x.Jobs, y.lok) /\ x.Todo.length <= maxLen /\ (∀ y ∈ x.Todo, y.lok) /\ x.Log.length <= maxLen /\ (∀ y ∈ x.Log, y.lok) /\ True
def sizTable (x : Table) : Nat := sizBase x.Base + x.Bkts.length + sizTJobS x.Jobs + sizTQueueS x.Todo + sizTEvS x.Log
def sizTableS (l : List Table) : Nat := l.length + (l.map sizTable).sum
def zeroTable : Table := ⟨zeroBase, [], [], [], [], 0⟩
theorem Table.lok_of {x : Table} (h : sizTable x <= 16777216) : x.lok := by
 have hm : maxLen = 9223372036854775807 := rfl
 unfold sizTable at h
 unfold sizTJobS at h
 unfold sizTQueueS at h
 unfold sizTEvS at h
 exact ⟨Base.lok_of (by omega), by omega, by omega, fun y hy => TJob.lok_of (by have := sum_mem sizTJob hy; omega), by omega, fun y hy => TQueue.lok_of (by have := sum_mem sizTQueue hy; omega), by omega, fun y hy => TEv.lok_of (by have := sum_mem sizTEv hy; omega), trivial⟩
theorem lokTableS {l : List Table} (h : sizTableS l <= 16777216) : l.length <= maxLen /\ ∀ y ∈ l, y.lok := by
 have hm : maxLen = 9223372036854775807 := rfl
 unfold sizTableS at h
 exact ⟨by omega, fun y hy => Table.lok_of (by have := sum_mem sizTable hy; omega)⟩
end Go.Proofs.YtebinioiggfplaaGreat.Mod
