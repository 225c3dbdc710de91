import Derived.Test.YtkmmgklnoagedaaGreatRows
import Derived.Test.YtkmmgklnoagedaaGreatQATy
import Derived.Test.YtkmmgklnoagedaaGreatQAbsTac
import Derived.Test.YtkmmgklnoagedaaGreatQAbsData
import Derived.Test.YtkmmgklnoagedaaGreatQAFam
import Derived.WalkKit
import Derived.ProofKit
import Derived.OpenShut
/- Contracts: Fam2. -/
namespace Go.Proofs.YtkmmgklnoagedaaGreat.Mod
open Go.Proofs.Tryz Go.Abs Go.Proofs.YtkmmgklnoagedaaGreat.Ty Go.ChangeShapes Go.WideShapes Go.ChangeAt Go.RowKit
set_option linter.unusedSimpArgs false
set_option linter.unusedVariables false
set_option maxHeartbeats 8000000
set_option maxRecDepth 100000
def encI (x : Int) : List D := [.int .i64 x]
theorem au {α : Type} (f : α -> Nat) : ∀ {l : List α} {i : Nat} (h : i < l.length), f l[i] <= (l.map f).sum
 | x :: l, 0, _ => by simp
 | x :: l, i + 1, h => by
  have := au f (l := l) (i := i) (by simpa using h)
  simp; omega
theorem aX {α : Type} (f : α -> Nat) {l : List α} {x : α} (h : x ∈ l) : f x <= (l.map f).sum := by
 obtain ⟨i, hi, rfl⟩ := List.getElem_of_mem h
 exact au f hi
theorem a9 {α : Type} (f : α -> Nat) {l : List α} {i : Nat} (h : i < l.length) : ((l.take (i + 1)).map f).sum = ((l.take i).map f).sum + f l[i] := by
 rw [List.take_succ_eq_append_getElem h, List.map_append, List.sum_append]; simp
theorem bt {α : Type} (f : α -> Nat) (l : List α) (i : Nat) : ((l.take i).map f).sum <= (l.map f).sum := by
 conv => rhs; rw [<- List.take_append_drop i l, List.map_append, List.sum_append]
 omega
theorem szL_raw {left : Int} {n : Nat} : decide (szL left n < 0) = decide (left - n < 0) := by
 unfold szL; split <;> simp <;> omega
theorem am {left : Int} {a b : Nat} (h0 : 0 <= left) (h : decide (szL left a < 0) = false) : szL (szL left a) b = szL left (a + b) := by
 unfold szL at h ⊢
 split at h
 ·simp at h
 ·rename_i hn
  rw [if_neg hn]
  by_cases h2 : left - (a + b : Nat) < 0
  ·rw [if_pos h2, if_pos (by omega)]
  ·rw [if_neg h2, if_neg (by omega)]; omega
theorem ap {left : Int} {a t : Nat} (h : decide (szL left a < 0) = true) (ht : a <= t) : (-1 : Int) = szL left t := by
 rw [szL_raw] at h
 simp at h
 unfold szL
 rw [if_pos (by omega)]
theorem c119 (rows : List (List D)) (left : Int) (h0 : 0 <= left) (h1 : left <= 1048576) (hl : rows.length <= maxLen) : Ctr prog 119 [.one (.dat (.sl 1 rows)), .one (.dat (.int .i64 left))] [] (.one (.dat (.int .i64 (szL left rows.length)))) [] := by
 have hw := aT h0 h1 hl
 refine Ctr.bd aa func119 rfl ?_
 refine sv2 ?_
 repeat' first
  | ((with_reducible show Abs.Fin _ _ _ _ _ _); refine Fin.nt results119 [] ?_ ?_ ?_ <;> try trivial)
  | with_reducible intro h
  | ((with_reducible show _ /\ _); apply And.intro)
 all_goals try ((refine rsl ?_; try exact .intro))
 all_goals simp_all [szL]
 all_goals omega
theorem c133 (l : List Int) (h : l.length <= 1048576) : Ctr prog 133 [.one (.dat (.sl 1 (l.map encI)))] [] (.one (.own 0)) [.vec 1 true (l.map encI)] := by
 have hl : l.length <= 1048576 := by omega
 refine Ctr.bd aa func133 rfl ?_
 refine evl ?_
 refine ⟨by omega, ?_⟩
 refine ab (fun n s => ∃ i : Nat, i <= l.length /\ n = l.length - i /\ s = mkSt [(4, .one (.dat (.int .i64 i))), (3, .one (.own 0)), (0, .one (.dat (.sl 1 (l.map encI))))]
   [.vec 1 true ((l.take i).map encI ++ List.replicate (l.length - i) [.int .i64 0])]) l.length _
  (Ent.wk [0]) ⟨0, by omega, by omega, rfl⟩ ?_
 rintro n s ⟨i, hi, rfl, rfl⟩ K hK
 rcases Nat.lt_or_ge i l.length with hlt | hge
 ·have hdi : decide ((i : Int) < l.length) = true := by simpa using hlt
  simp (maxSteps := 2000000) only [go_sem, seval, hdi, getD_map hlt, encI, D.flat, ah hlt (le20 hl)]
  first | refine ⟨⟨by omega, by omega⟩, hlt, ?_⟩ | refine ⟨by omega, hlt, ?_⟩
  repeat' ((with_reducible show _ /\ _); apply And.intro)
  all_goals first
   | (apply hK
      refine ⟨l.length - (i + 1), _, by omega, Ent.weak (ids := [0]) (by simp) rfl (by simp) ?_ ?_ ?_, i + 1, by omega, rfl, rfl⟩
      ·simp only [objsLe, St.obj, find, AObj.renF, if_true, Option.getD_some, List.getD_cons_zero, and_true]
       rw [<- aS encI l _ hlt]
       exact ⟨by simp, Or.inr rfl⟩
      ·simp [objsLe, envLe, find, St.obj, AObj.renF, AV.renF, AV.renF1, Leaf.renF, LowAll, AV.Low, AV.Low1, Leaf.Low, AObj.Low, Ptr.renF, Ptr.Low]
      ·simp [objsLe, envLe, find, St.obj, AObj.renF, AV.renF, AV.renF1, Leaf.renF, LowAll, AV.Low, AV.Low1, Leaf.Low, AObj.Low, Ptr.renF, Ptr.Low])
   | omega
   | decide
   | (simp; done)
   | (simp; omega)
   | trivial
 ·have hge' : i = l.length := by omega
  subst hge'
  have hdi : decide ((l.length : Int) < l.length) = false := by simp
  refine sv3 ?_
  apply hK
  refine evl ?_
  refine Fin.nt results133 [0] ?_ ?_ ?_ <;> try trivial
  all_goals simp [objsLe, St.obj, find, AObj.renF]
theorem c94 (l l' : List Int) (hl : l.length <= maxLen) (hl' : l'.length <= maxLen) : Ctr prog 94 [.one (.dat (.sl 1 (l.map encI))), .one (.dat (.sl 1 (l'.map encI)))] [] (.one (.dat (.bool (decide (l = l'))))) [] := by
 refine Ctr.bd aa func94 rfl ?_
 refine evl ?_
 constructor <;> intro h
 ·have hne : l.length ≠ l'.length := by simp at h; omega
  refine Fin.nt results94 [] ?_ ?_ ?_ <;> try trivial
  (refine rsl ?_; try exact .intro)
  symm; rw [decide_eq_false_iff_not]
  intro e; exact hne (by rw [e])
 have hlen : l.length = l'.length := by simp at h; omega
 refine ab (fun n s => ∃ i : Nat, i <= l.length /\ n = l.length - i /\ l.take i = l'.take i /\ s = mkSt [(5, .one (.dat (.int .i64 i))), (1, .one (.dat (.sl 1 (l'.map encI)))), (0, .one (.dat (.sl 1 (l.map encI))))] []) l.length _
  (Ent.wk []) ⟨0, by omega, by omega, rfl, rfl⟩ ?_
 rintro n s ⟨i, hi, rfl, ht, rfl⟩ K hK
 rcases Nat.lt_or_ge i l.length with hlt | hge
 ·have hdi : decide ((i : Int) < l.length) = true := by simpa using hlt
  have hlt' : i < l'.length := by omega
  simp (maxSteps := 2000000) only [go_sem, seval, hdi, ah hlt hl, getD_map hlt, getD_map hlt', encI]
  refine ⟨⟨by omega, by omega⟩, hlt, ⟨by omega, by omega⟩, hlt', ?_⟩
  constructor <;> intro h
  ·apply hK
   refine evl ?_
   refine Fin.nt results94 [] ?_ ?_ ?_ <;> try trivial
   (refine rsl ?_; try exact .intro)
   symm; rw [decide_eq_false_iff_not]
   rintro rfl; simp at h
  ·apply hK
   have he : l[i] = l'[i] := by simpa using h
   exact ⟨l.length - (i + 1), _, by omega, Ent.wk [], i + 1, by omega, rfl, by rw [List.take_succ_eq_append_getElem hlt, List.take_succ_eq_append_getElem hlt', ht, he], rfl⟩
 ·have hge' : i = l.length := by omega
  subst hge'
  have hdi : decide ((l.length : Int) < l.length) = false := by simp
  refine sv3 ?_
  apply hK
  refine evl ?_
  refine Fin.nt results94 [] ?_ ?_ ?_ <;> try trivial
  (refine rsl ?_; try exact .intro)
  symm; rw [decide_eq_true_iff]
  rw [List.take_of_length_le (Nat.le_refl _), List.take_of_length_le (by omega)] at ht
  exact ht
structure Heap where
 Bytes : List Int
 Class : List Int
 deriving DecidableEq
def encHeap (x : Heap) : List D := [.sl 1 (x.Bytes.map encI), .sl 1 (x.Class.map encI)]
def Heap.wf (x : Heap) : Prop := (∀ y ∈ x.Bytes, (Lit.int .i64 y).wf = true) /\ (∀ y ∈ x.Class, (Lit.int .i64 y).wf = true) /\ True
theorem Heap.eq_iff (x y : Heap) : x = y ↔ x.Bytes = y.Bytes /\ x.Class = y.Class := by cases x; cases y; simp
def Heap.lok (x : Heap) : Prop := x.Bytes.length <= maxLen /\ x.Class.length <= maxLen /\ True
def sizHeap (x : Heap) : Nat := x.Bytes.length + x.Class.length
theorem nP (n : Nat) (ds : List D) (h : WT prog n 51 ds) : ∃ x : Heap, ds = encHeap x /\ x.wf /\ x.lok := by
 cases n with
 | zero => exact h.elim
 | succ n =>
  unfold WT at h
  rw [underlying51] at h
  simp only [List.toList_toArray, List.map_cons, List.map_nil, WTs] at h
  obtain ⟨_, _, rfl, h0, ⟨_, _, rfl, h1, rfl⟩⟩ := h
  obtain ⟨x0, rfl, c0, w0⟩ := aU (enc := encI) (q := fun x => (Lit.int .i64 x).wf = true) underlying24 tc_3 (fun _ _ h => ao underlying3 h) h0
  obtain ⟨x1, rfl, c1, w1⟩ := aU (enc := encI) (q := fun x => (Lit.int .i64 x).wf = true) underlying24 tc_3 (fun _ _ h => ao underlying3 h) h1
  exact ⟨⟨x0, x1⟩, rfl, ⟨w0, w1, trivial⟩, ⟨c0, c1, trivial⟩⟩
theorem Heap.lok_of {x : Heap} (h : sizHeap x <= 16777216) : x.lok := by
 have hm : maxLen = 9223372036854775807 := rfl
 unfold sizHeap at h
 exact ⟨by omega, by omega, trivial⟩
theorem c199 (x : Heap) (hk : x.lok) (left : Int) (h0 : 0 <= left) (h1 : left <= 1048576) : Ctr prog 199 [.agg ((encHeap x).map .dat), .one (.dat (.int .i64 left))] [] (.one (.dat (.int .i64 (szL left (sizHeap x))))) [] := by
 simp only [encHeap, List.map_cons, List.map_nil]
 unfold sizHeap
 refine Ctr.bd aa func199 rfl ?_
 refine evl ?_
 obtain ⟨kBytes, kClass, _⟩ := hk
 refine ae e119 (c119 (x.Bytes.map encI) left h0 h1 (by simpa using kBytes)) rfl ?_
 refine evl ?_
 constructor <;> intro h
 ·refine Fin.nt results199 [] ?_ ?_ ?_ <;> try trivial
  (refine rsl ?_; try exact .intro)
  try simp only [List.length_map] at h
  exact ap (h) (by omega)
 try simp only [List.length_map] at h
 have a0 : decide (szL left (x.Bytes.length) < 0) = false := h
 obtain ⟨_, _, g0, u0⟩ := az h1 a0
 try simp only [List.length_map]
 refine ae e119 (c119 (x.Class.map encI) (szL left (x.Bytes.length)) g0 u0 (by simpa using kClass)) rfl ?_
 refine evl ?_
 constructor <;> intro h
 ·refine Fin.nt results199 [] ?_ ?_ ?_ <;> try trivial
  (refine rsl ?_; try exact .intro)
  try simp only [List.length_map] at h
  exact ap (am h0 a0 ▸ h) (by omega)
 try simp only [List.length_map] at h
 have a1 : decide (szL left (x.Bytes.length + x.Class.length) < 0) = false := am h0 a0 ▸ h
 refine Fin.nt results199 [] ?_ ?_ ?_ <;> try trivial
 all_goals try ((refine rsl ?_; try exact .intro))
 all_goals try simp only [List.length_map]
 all_goals try exact am h0 a0
theorem c220 (x : Heap) (h : sizHeap x <= 1048576) : Ctr prog 220 [.agg ((encHeap x).map .dat)] [] (.agg [.own 0, .own 1]) [.vec 1 true (x.Bytes.map encI), .vec 1 true (x.Class.map encI)] := by
 simp only [encHeap, List.map_cons, List.map_nil]
 unfold sizHeap at h
 refine Ctr.bd aa func220 rfl ?_
 refine evl ?_
 refine ae e133 (c133 x.Bytes (by omega)) rfl ?_
 refine evl ?_
 refine ae e133 (c133 x.Class (by omega)) rfl ?_
 refine evl ?_
 first | ((refine Fin.nt results220 [3, 4] ?_ ?_ ?_ <;> try trivial) <;> (first | rfl | exact entd); done) | ((refine Fin.nt results220 [2, 3] ?_ ?_ ?_ <;> try trivial) <;> (first | rfl | exact entd); done) | ((refine Fin.nt results220 [1, 2] ?_ ?_ ?_ <;> try trivial) <;> (first | rfl | exact entd); done) | ((refine Fin.nt results220 [0, 1] ?_ ?_ ?_ <;> try trivial) <;> (first | rfl | exact entd); done) | ((refine Fin.nt results220 [4, 5] ?_ ?_ ?_ <;> try trivial) <;> (first | rfl | exact entd); done) | ((refine Fin.nt results220 [5, 6] ?_ ?_ ?_ <;> try trivial) <;> (first | rfl | exact entd); done)
theorem c180 (x y : Heap) (hx : sizHeap x <= 1048576) (hy : sizHeap y <= 1048576) : Ctr prog 180 [.agg ((encHeap x).map .dat), .agg ((encHeap y).map .dat)] [] (.one (.dat (.bool (decide (x = y))))) [] := by
 simp only [encHeap, List.map_cons, List.map_nil]
 unfold sizHeap at hx hy
 have hm : maxLen = 9223372036854775807 := rfl
 refine Ctr.bd aa func180 rfl ?_
 refine evl ?_
 refine ck e94 (c94 x.Bytes y.Bytes (by omega) (by omega)) rfl ?_
 refine evl ?_
 constructor <;> intro h
 ·refine Fin.nt results180 [] ?_ ?_ ?_ <;> try trivial
  (refine rsl ?_; try exact .intro)
  simp_all [Heap.eq_iff]
 have eBytes := h; clear h
 refine ck e94 (c94 x.Class y.Class (by omega) (by omega)) rfl ?_
 refine evl ?_
 constructor <;> intro h
 ·refine Fin.nt results180 [] ?_ ?_ ?_ <;> try trivial
  (refine rsl ?_; try exact .intro)
  simp_all [Heap.eq_iff]
 have eClass := h; clear h
 refine Fin.nt results180 [] ?_ ?_ ?_ <;> try trivial
 (refine rsl ?_; try exact .intro)
 simp_all [Heap.eq_iff]
structure SList where
 Slots : List Int
 deriving DecidableEq
def encSList (x : SList) : List D := [.sl 1 (x.Slots.map encI)]
def SList.wf (x : SList) : Prop := (∀ y ∈ x.Slots, (Lit.int .i64 y).wf = true) /\ True
theorem SList.eq_iff (x y : SList) : x = y ↔ x.Slots = y.Slots := by cases x; cases y; simp
def SList.lok (x : SList) : Prop := x.Slots.length <= maxLen /\ True
def sizSList (x : SList) : Nat := x.Slots.length
def sizSListS (l : List SList) : Nat := l.length + (l.map sizSList).sum
theorem jf (n : Nat) (ds : List D) (h : WT prog n 345 ds) : ∃ x : SList, ds = encSList x /\ x.wf /\ x.lok := by
 cases n with
 | zero => exact h.elim
 | succ n =>
  unfold WT at h
  rw [underlying345] at h
  simp only [List.toList_toArray, List.map_cons, List.map_nil, WTs] at h
  obtain ⟨_, _, rfl, h0, rfl⟩ := h
  obtain ⟨x0, rfl, c0, w0⟩ := aU (enc := encI) (q := fun x => (Lit.int .i64 x).wf = true) underlying24 tc_3 (fun _ _ h => ao underlying3 h) h0
  exact ⟨⟨x0⟩, rfl, ⟨w0, trivial⟩, ⟨c0, trivial⟩⟩
theorem SList.lok_of {x : SList} (h : sizSList x <= 16777216) : x.lok := by
 have hm : maxLen = 9223372036854775807 := rfl
 unfold sizSList at h
 exact ⟨by omega, trivial⟩
theorem g9 {l : List SList} (h : sizSListS l <= 16777216) : l.length <= maxLen /\ ∀ y ∈ l, y.lok := by
 have hm : maxLen = 9223372036854775807 := rfl
 unfold sizSListS at h
 exact ⟨by omega, fun y hy => SList.lok_of (by have := aX sizSList hy; omega)⟩
theorem c331 (x : SList) (hk : x.lok) (left : Int) (h0 : 0 <= left) (h1 : left <= 1048576) : Ctr prog 331 [.agg ((encSList x).map .dat), .one (.dat (.int .i64 left))] [] (.one (.dat (.int .i64 (szL left (sizSList x))))) [] := by
 simp only [encSList, List.map_cons, List.map_nil]
 unfold sizSList
 refine Ctr.bd aa func331 rfl ?_
 refine evl ?_
 obtain ⟨kSlots, _⟩ := hk
 refine ae e119 (c119 (x.Slots.map encI) left h0 h1 (by simpa using kSlots)) rfl ?_
 refine evl ?_
 constructor <;> intro h
 ·refine Fin.nt results331 [] ?_ ?_ ?_ <;> try trivial
  (refine rsl ?_; try exact .intro)
  try simp only [List.length_map] at h
  exact ap (h) (by omega)
 try simp only [List.length_map] at h
 have a0 : decide (szL left (x.Slots.length) < 0) = false := h
 refine Fin.nt results331 [] ?_ ?_ ?_ <;> try trivial
 all_goals try ((refine rsl ?_; try exact .intro))
 all_goals try simp only [List.length_map]
theorem c339 (x : SList) (h : sizSList x <= 1048576) : Ctr prog 339 [.agg ((encSList x).map .dat)] [] (.agg [.own 0]) [.vec 1 true (x.Slots.map encI)] := by
 simp only [encSList, List.map_cons, List.map_nil]
 unfold sizSList at h
 refine Ctr.bd aa func339 rfl ?_
 refine evl ?_
 refine ae e133 (c133 x.Slots (by omega)) rfl ?_
 refine evl ?_
 first | ((refine Fin.nt results339 [3] ?_ ?_ ?_ <;> try trivial) <;> (first | rfl | exact entd); done) | ((refine Fin.nt results339 [2] ?_ ?_ ?_ <;> try trivial) <;> (first | rfl | exact entd); done) | ((refine Fin.nt results339 [1] ?_ ?_ ?_ <;> try trivial) <;> (first | rfl | exact entd); done) | ((refine Fin.nt results339 [0] ?_ ?_ ?_ <;> try trivial) <;> (first | rfl | exact entd); done) | ((refine Fin.nt results339 [4] ?_ ?_ ?_ <;> try trivial) <;> (first | rfl | exact entd); done) | ((refine Fin.nt results339 [5] ?_ ?_ ?_ <;> try trivial) <;> (first | rfl | exact entd); done)
theorem c329 (x y : SList) (hx : sizSList x <= 1048576) (hy : sizSList y <= 1048576) : Ctr prog 329 [.agg ((encSList x).map .dat), .agg ((encSList y).map .dat)] [] (.one (.dat (.bool (decide (x = y))))) [] := by
 simp only [encSList, List.map_cons, List.map_nil]
 unfold sizSList at hx hy
 have hm : maxLen = 9223372036854775807 := rfl
 refine Ctr.bd aa func329 rfl ?_
 refine evl ?_
 refine ck e94 (c94 x.Slots y.Slots (by omega) (by omega)) rfl ?_
 refine evl ?_
 constructor <;> intro h
 ·refine Fin.nt results329 [] ?_ ?_ ?_ <;> try trivial
  (refine rsl ?_; try exact .intro)
  simp_all [SList.eq_iff]
 have eSlots := h; clear h
 refine Fin.nt results329 [] ?_ ?_ ?_ <;> try trivial
 (refine rsl ?_; try exact .intro)
 simp_all [SList.eq_iff]
theorem c282 (l : List SList) (hl : l.length <= maxLen) (hk : ∀ y ∈ l, y.lok) (left : Int) (h0 : 0 <= left) (h1 : left <= 1048576) : Ctr prog 282 [.one (.dat (.sl 1 (l.map encSList))), .one (.dat (.int .i64 left))] [] (.one (.dat (.int .i64 (szL left (sizSListS l))))) [] := by
 have hw := aT h0 h1 hl
 unfold sizSListS
 refine Ctr.bd aa func282 rfl ?_
 refine sv2 ?_
 constructor <;> intro h
 ·refine Fin.nt results282 [] ?_ ?_ ?_ <;> try trivial
  (refine rsl ?_; try exact .intro)
  exact ap (left := left) (a := l.length) (by rw [szL_raw]; exact h) (by omega)
 have a0 : decide (szL left l.length < 0) = false := by rw [szL_raw]; exact h
 have e0 : left - (l.length : Int) = szL left (l.length + ((l.take 0).map sizSList).sum) := by
  have := (az h1 a0).2.1; simp; exact this.symm
 rw [e0]
 refine ab (fun n s => ∃ i : Nat, i <= l.length /\ n = l.length - i /\ decide (szL left (l.length + ((l.take i).map sizSList).sum) < 0) = false /\ s = mkSt [(5, .one (.dat (.int .i64 i))), (1, .one (.dat (.int .i64 (szL left (l.length + ((l.take i).map sizSList).sum))))), (0, .one (.dat (.sl 1 (l.map encSList))))] []) l.length _
  (Ent.wk []) ⟨0, by omega, by omega, by simpa using a0, rfl⟩ ?_
 rintro n s ⟨i, hi, rfl, ht, rfl⟩ K hK
 rcases Nat.lt_or_ge i l.length with hlt | hge
 ·have hdi : decide ((i : Int) < l.length) = true := by simpa using hlt
  have hwi := ah hlt hl
  have hs := a9 sizSList hlt
  have hs2 := bt sizSList l (i + 1)
  obtain ⟨_, _, g, u⟩ := az h1 ht
  simp (maxSteps := 2000000) only [go_sem, seval, hdi, hwi, getD_map hlt, encSList]
  refine ⟨⟨by omega, by omega⟩, hlt, ?_⟩
  refine ae e331 (c331 l[i] (hk _ (List.getElem_mem hlt)) _ g u) rfl ?_
  refine sv4 ?_
  rw [Nat.add_assoc, <- hs]
  constructor <;> intro h
  ·apply hK
   refine evl ?_
   refine Fin.nt results282 [] ?_ ?_ ?_ <;> try trivial
   (refine rsl ?_; try exact .intro)
   exact ap h (by omega)
  ·apply hK
   exact ⟨l.length - (i + 1), _, by omega, Ent.wk [], i + 1, by omega, rfl, h, rfl⟩
 ·have hge' : i = l.length := by omega
  subst hge'
  have hdi : decide ((l.length : Int) < l.length) = false := by simp
  refine sv3 ?_
  apply hK
  refine evl ?_
  refine Fin.nt results282 [] ?_ ?_ ?_ <;> try trivial
  all_goals try ((refine rsl ?_; try exact .intro))
  all_goals simp
theorem c290 (l : List SList) (h : sizSListS l <= 1048576) : Ctr prog 290 [.one (.dat (.sl 1 (l.map encSList)))] [] (.one (.own 0)) [.vec 1 true (l.map encSList)] := by
 have hl : l.length <= 1048576 := by unfold sizSListS at h; omega
 refine Ctr.bd aa func290 rfl ?_
 refine evl ?_
 refine ⟨by omega, ?_⟩
 refine ab (fun n s => ∃ i : Nat, i <= l.length /\ n = l.length - i /\ s = mkSt [(4, .one (.dat (.int .i64 i))), (3, .one (.own 0)), (0, .one (.dat (.sl 1 (l.map encSList))))]
   [.vec 1 true ((l.take i).map encSList ++ List.replicate (l.length - i) [.sl 1 []])]) l.length _
  (Ent.wk [0]) ⟨0, by omega, by omega, rfl⟩ ?_
 rintro n s ⟨i, hi, rfl, rfl⟩ K hK
 rcases Nat.lt_or_ge i l.length with hlt | hge
 ·have hdi : decide ((i : Int) < l.length) = true := by simpa using hlt
  simp (maxSteps := 2000000) only [go_sem, seval, hdi, getD_map hlt, encSList, D.flat, ah hlt (le20 hl)]
  first | refine ⟨⟨by omega, by omega⟩, hlt, ?_⟩ | refine ⟨by omega, hlt, ?_⟩
  refine ae e339 (c339 l[i] (by have := au sizSList hlt; unfold sizSListS at h; omega)) rfl ?_
  simp (maxSteps := 2000000) only [go_sem, seval, encSList, D.flat, ah hlt (le20 hl)]
  repeat' ((with_reducible show _ /\ _); apply And.intro)
  all_goals first
   | (apply hK
      refine ⟨l.length - (i + 1), _, by omega, Ent.weak (ids := [0]) (by simp) rfl (by simp) ?_ ?_ ?_, i + 1, by omega, rfl, rfl⟩
      ·simp only [objsLe, St.obj, find, AObj.renF, if_true, Option.getD_some, List.getD_cons_zero, and_true]
       rw [<- aS encSList l _ hlt]
       exact ⟨by simp, Or.inr rfl⟩
      ·simp [objsLe, envLe, find, St.obj, AObj.renF, AV.renF, AV.renF1, Leaf.renF, LowAll, AV.Low, AV.Low1, Leaf.Low, AObj.Low, Ptr.renF, Ptr.Low]
      ·simp [objsLe, envLe, find, St.obj, AObj.renF, AV.renF, AV.renF1, Leaf.renF, LowAll, AV.Low, AV.Low1, Leaf.Low, AObj.Low, Ptr.renF, Ptr.Low])
   | omega
   | decide
   | (simp; done)
   | (simp; omega)
   | trivial
 ·have hge' : i = l.length := by omega
  subst hge'
  have hdi : decide ((l.length : Int) < l.length) = false := by simp
  refine sv3 ?_
  apply hK
  refine evl ?_
  refine Fin.nt results290 [0] ?_ ?_ ?_ <;> try trivial
  all_goals simp [objsLe, St.obj, find, AObj.renF]
theorem c273 (l l' : List SList) (h0 : sizSListS l <= 1048576) (h0' : sizSListS l' <= 1048576) : Ctr prog 273 [.one (.dat (.sl 1 (l.map encSList))), .one (.dat (.sl 1 (l'.map encSList)))] [] (.one (.dat (.bool (decide (l = l'))))) [] := by
 have hl : l.length <= maxLen := (g9 (by omega)).1
 have hl' : l'.length <= maxLen := (g9 (by omega)).1
 refine Ctr.bd aa func273 rfl ?_
 refine evl ?_
 constructor <;> intro h
 ·have hne : l.length ≠ l'.length := by simp at h; omega
  refine Fin.nt results273 [] ?_ ?_ ?_ <;> try trivial
  (refine rsl ?_; try exact .intro)
  symm; rw [decide_eq_false_iff_not]
  intro e; exact hne (by rw [e])
 have hlen : l.length = l'.length := by simp at h; omega
 refine ab (fun n s => ∃ i : Nat, i <= l.length /\ n = l.length - i /\ l.take i = l'.take i /\ s = mkSt [(5, .one (.dat (.int .i64 i))), (1, .one (.dat (.sl 1 (l'.map encSList)))), (0, .one (.dat (.sl 1 (l.map encSList))))] []) l.length _
  (Ent.wk []) ⟨0, by omega, by omega, rfl, rfl⟩ ?_
 rintro n s ⟨i, hi, rfl, ht, rfl⟩ K hK
 rcases Nat.lt_or_ge i l.length with hlt | hge
 ·have hdi : decide ((i : Int) < l.length) = true := by simpa using hlt
  have hlt' : i < l'.length := by omega
  simp (maxSteps := 2000000) only [go_sem, seval, hdi, ah hlt hl, getD_map hlt, getD_map hlt', encSList]
  refine ⟨⟨by omega, by omega⟩, hlt, ⟨by omega, by omega⟩, hlt', ?_⟩
  first
   | refine aj e329 (fun _ => ⟨trivial, c329 l[i] l'[i] (by have := au sizSList hlt; unfold sizSListS at h0; omega) (by have := au sizSList hlt'; unfold sizSListS at h0'; omega)⟩) rfl rfl ?_
   | refine Or.inl (aj e329 (fun _ => ⟨trivial, c329 l[i] l'[i] (by have := au sizSList hlt; unfold sizSListS at h0; omega) (by have := au sizSList hlt'; unfold sizSListS at h0'; omega)⟩) rfl rfl ?_)
  refine sv0 ?_
  constructor <;> intro h
  ·apply hK
   refine evl ?_
   refine Fin.nt results273 [] ?_ ?_ ?_ <;> try trivial
   (refine rsl ?_; try exact .intro)
   symm; rw [decide_eq_false_iff_not]
   rintro rfl; simp at h
  ·apply hK
   have he : l[i] = l'[i] := by simpa using h
   exact ⟨l.length - (i + 1), _, by omega, Ent.wk [], i + 1, by omega, rfl, by rw [List.take_succ_eq_append_getElem hlt, List.take_succ_eq_append_getElem hlt', ht, he], rfl⟩
 ·have hge' : i = l.length := by omega
  subst hge'
  have hdi : decide ((l.length : Int) < l.length) = false := by simp
  refine sv3 ?_
  apply hK
  refine evl ?_
  refine Fin.nt results273 [] ?_ ?_ ?_ <;> try trivial
  (refine rsl ?_; try exact .intro)
  symm; rw [decide_eq_true_iff]
  rw [List.take_of_length_le (Nat.le_refl _), List.take_of_length_le (by omega)] at ht
  exact ht
structure Lists where
 Global : List SList
 Own : List SList
 deriving DecidableEq
def encLists (x : Lists) : List D := [.sl 1 (x.Global.map encSList), .sl 1 (x.Own.map encSList)]
def Lists.wf (x : Lists) : Prop := (∀ y ∈ x.Global, y.wf) /\ (∀ y ∈ x.Own, y.wf) /\ True
theorem Lists.eq_iff (x y : Lists) : x = y ↔ x.Global = y.Global /\ x.Own = y.Own := by cases x; cases y; simp
def Lists.lok (x : Lists) : Prop := x.Global.length <= maxLen /\ (∀ y ∈ x.Global, y.lok) /\ x.Own.length <= maxLen /\ (∀ y ∈ x.Own, y.lok) /\ True
def sizLists (x : Lists) : Nat := sizSListS x.Global + sizSListS x.Own
theorem m6 (n : Nat) (ds : List D) (h : WT prog n 54 ds) : ∃ x : Lists, ds = encLists x /\ x.wf /\ x.lok := by
 cases n with
 | zero => exact h.elim
 | succ n =>
  unfold WT at h
  rw [underlying54] at h
  simp only [List.toList_toArray, List.map_cons, List.map_nil, WTs] at h
  obtain ⟨_, _, rfl, h0, ⟨_, _, rfl, h1, rfl⟩⟩ := h
  obtain ⟨x0, rfl, c0, w0⟩ := aU (enc := encSList) (q := fun x => x.wf /\ x.lok) underlying52 lK jf h0
  obtain ⟨x1, rfl, c1, w1⟩ := aU (enc := encSList) (q := fun x => x.wf /\ x.lok) underlying52 lK jf h1
  exact ⟨⟨x0, x1⟩, rfl, ⟨fun y hy => (w0 y hy).1, fun y hy => (w1 y hy).1, trivial⟩, ⟨c0, fun y hy => (w0 y hy).2, c1, fun y hy => (w1 y hy).2, trivial⟩⟩
theorem Lists.lok_of {x : Lists} (h : sizLists x <= 16777216) : x.lok := by
 have hm : maxLen = 9223372036854775807 := rfl
 unfold sizLists at h
 unfold sizSListS at h
 exact ⟨by omega, fun y hy => SList.lok_of (by have := aX sizSList hy; omega), by omega, fun y hy => SList.lok_of (by have := aX sizSList hy; omega), trivial⟩
theorem c200 (x : Lists) (hk : x.lok) (left : Int) (h0 : 0 <= left) (h1 : left <= 1048576) : Ctr prog 200 [.agg ((encLists x).map .dat), .one (.dat (.int .i64 left))] [] (.one (.dat (.int .i64 (szL left (sizLists x))))) [] := by
 simp only [encLists, List.map_cons, List.map_nil]
 unfold sizLists
 refine Ctr.bd aa func200 rfl ?_
 refine evl ?_
 obtain ⟨kGlobal, qGlobal, kOwn, qOwn, _⟩ := hk
 refine ae e282 (c282 x.Global kGlobal qGlobal left h0 h1) rfl ?_
 refine evl ?_
 constructor <;> intro h
 ·refine Fin.nt results200 [] ?_ ?_ ?_ <;> try trivial
  (refine rsl ?_; try exact .intro)
  try simp only [List.length_map] at h
  exact ap (h) (by omega)
 try simp only [List.length_map] at h
 have a0 : decide (szL left (sizSListS x.Global) < 0) = false := h
 obtain ⟨_, _, g0, u0⟩ := az h1 a0
 try simp only [List.length_map]
 refine ae e282 (c282 x.Own kOwn qOwn (szL left (sizSListS x.Global)) g0 u0) rfl ?_
 refine evl ?_
 constructor <;> intro h
 ·refine Fin.nt results200 [] ?_ ?_ ?_ <;> try trivial
  (refine rsl ?_; try exact .intro)
  try simp only [List.length_map] at h
  exact ap (am h0 a0 ▸ h) (by omega)
 try simp only [List.length_map] at h
 have a1 : decide (szL left (sizSListS x.Global + sizSListS x.Own) < 0) = false := am h0 a0 ▸ h
 refine Fin.nt results200 [] ?_ ?_ ?_ <;> try trivial
 all_goals try ((refine rsl ?_; try exact .intro))
 all_goals try simp only [List.length_map]
 all_goals try exact am h0 a0
theorem c221 (x : Lists) (h : sizLists x <= 1048576) : Ctr prog 221 [.agg ((encLists x).map .dat)] [] (.agg [.own 0, .own 1]) [.vec 1 true (x.Global.map encSList), .vec 1 true (x.Own.map encSList)] := by
 simp only [encLists, List.map_cons, List.map_nil]
 unfold sizLists at h
 refine Ctr.bd aa func221 rfl ?_
 refine evl ?_
 refine ae e290 (c290 x.Global (by omega)) rfl ?_
 refine evl ?_
 refine ae e290 (c290 x.Own (by omega)) rfl ?_
 refine evl ?_
 first | ((refine Fin.nt results221 [3, 4] ?_ ?_ ?_ <;> try trivial) <;> (first | rfl | exact entd); done) | ((refine Fin.nt results221 [2, 3] ?_ ?_ ?_ <;> try trivial) <;> (first | rfl | exact entd); done) | ((refine Fin.nt results221 [1, 2] ?_ ?_ ?_ <;> try trivial) <;> (first | rfl | exact entd); done) | ((refine Fin.nt results221 [0, 1] ?_ ?_ ?_ <;> try trivial) <;> (first | rfl | exact entd); done) | ((refine Fin.nt results221 [4, 5] ?_ ?_ ?_ <;> try trivial) <;> (first | rfl | exact entd); done) | ((refine Fin.nt results221 [5, 6] ?_ ?_ ?_ <;> try trivial) <;> (first | rfl | exact entd); done)
theorem c181 (x y : Lists) (hx : sizLists x <= 1048576) (hy : sizLists y <= 1048576) : Ctr prog 181 [.agg ((encLists x).map .dat), .agg ((encLists y).map .dat)] [] (.one (.dat (.bool (decide (x = y))))) [] := by
 simp only [encLists, List.map_cons, List.map_nil]
 unfold sizLists at hx hy
 have hm : maxLen = 9223372036854775807 := rfl
 refine Ctr.bd aa func181 rfl ?_
 refine evl ?_
 refine ck e273 (c273 x.Global y.Global (by omega) (by omega)) rfl ?_
 refine evl ?_
 constructor <;> intro h
 ·refine Fin.nt results181 [] ?_ ?_ ?_ <;> try trivial
  (refine rsl ?_; try exact .intro)
  simp_all [Lists.eq_iff]
 have eGlobal := h; clear h
 refine ck e273 (c273 x.Own y.Own (by omega) (by omega)) rfl ?_
 refine evl ?_
 constructor <;> intro h
 ·refine Fin.nt results181 [] ?_ ?_ ?_ <;> try trivial
  (refine rsl ?_; try exact .intro)
  simp_all [Lists.eq_iff]
 have eOwn := h; clear h
 refine Fin.nt results181 [] ?_ ?_ ?_ <;> try trivial
 (refine rsl ?_; try exact .intro)
 simp_all [Lists.eq_iff]
structure Mem where
 Heap : Heap
 Lists : Lists
 deriving DecidableEq
def encMem (x : Mem) : List D := [.sl 1 (x.Heap.Bytes.map encI), .sl 1 (x.Heap.Class.map encI), .sl 1 (x.Lists.Global.map encSList), .sl 1 (x.Lists.Own.map encSList)]
def Mem.wf (x : Mem) : Prop := x.Heap.wf /\ x.Lists.wf /\ True
theorem Mem.eq_iff (x y : Mem) : x = y ↔ x.Heap = y.Heap /\ x.Lists = y.Lists := by cases x; cases y; simp
def Mem.lok (x : Mem) : Prop := x.Heap.lok /\ x.Lists.lok /\ True
def sizMem (x : Mem) : Nat := sizHeap x.Heap + sizLists x.Lists
theorem oL (n : Nat) (ds : List D) (h : WT prog n 56 ds) : ∃ x : Mem, ds = encMem x /\ x.wf /\ x.lok := by
 cases n with
 | zero => exact h.elim
 | succ n =>
  unfold WT at h
  rw [underlying56] at h
  simp only [List.toList_toArray, List.map_cons, List.map_nil, WTs] at h
  obtain ⟨_, _, rfl, h0, ⟨_, _, rfl, h1, rfl⟩⟩ := h
  obtain ⟨x0, rfl, w0, k0⟩ := nP _ _ h0
  obtain ⟨x1, rfl, w1, k1⟩ := m6 _ _ h1
  exact ⟨⟨x0, x1⟩, rfl, ⟨w0, w1, trivial⟩, ⟨k0, k1, trivial⟩⟩
theorem c116 (x : Mem) (hk : x.lok) (left : Int) (h0 : 0 <= left) (h1 : left <= 1048576) : Ctr prog 116 [.agg ((encMem x).map .dat), .one (.dat (.int .i64 left))] [] (.one (.dat (.int .i64 (szL left (sizMem x))))) [] := by
 simp only [encMem, List.map_cons, List.map_nil]
 unfold sizMem
 refine Ctr.bd aa func116 rfl ?_
 refine evl ?_
 obtain ⟨kHeap, kLists, _⟩ := hk
 refine ae e199 (c199 x.Heap kHeap left h0 h1) rfl ?_
 refine evl ?_
 constructor <;> intro h
 ·refine Fin.nt results116 [] ?_ ?_ ?_ <;> try trivial
  (refine rsl ?_; try exact .intro)
  try simp only [List.length_map] at h
  exact ap (h) (by omega)
 try simp only [List.length_map] at h
 have a0 : decide (szL left (sizHeap x.Heap) < 0) = false := h
 obtain ⟨_, _, g0, u0⟩ := az h1 a0
 try simp only [List.length_map]
 refine ae e200 (c200 x.Lists kLists (szL left (sizHeap x.Heap)) g0 u0) rfl ?_
 refine evl ?_
 constructor <;> intro h
 ·refine Fin.nt results116 [] ?_ ?_ ?_ <;> try trivial
  (refine rsl ?_; try exact .intro)
  try simp only [List.length_map] at h
  exact ap (am h0 a0 ▸ h) (by omega)
 try simp only [List.length_map] at h
 have a1 : decide (szL left (sizHeap x.Heap + sizLists x.Lists) < 0) = false := am h0 a0 ▸ h
 refine Fin.nt results116 [] ?_ ?_ ?_ <;> try trivial
 all_goals try ((refine rsl ?_; try exact .intro))
 all_goals try simp only [List.length_map]
 all_goals try exact am h0 a0
theorem c130 (x : Mem) (h : sizMem x <= 1048576) : Ctr prog 130 [.agg ((encMem x).map .dat)] [] (.agg [.own 0, .own 1, .own 2, .own 3]) [.vec 1 true (x.Heap.Bytes.map encI), .vec 1 true (x.Heap.Class.map encI), .vec 1 true (x.Lists.Global.map encSList), .vec 1 true (x.Lists.Own.map encSList)] := by
 simp only [encMem, List.map_cons, List.map_nil]
 unfold sizMem at h
 refine Ctr.bd aa func130 rfl ?_
 refine evl ?_
 refine ae e220 (c220 x.Heap (by omega)) rfl ?_
 refine evl ?_
 refine ae e221 (c221 x.Lists (by omega)) rfl ?_
 refine evl ?_
 first | ((refine Fin.nt results130 [3, 4, 5, 6] ?_ ?_ ?_ <;> try trivial) <;> (first | rfl | exact entd); done) | ((refine Fin.nt results130 [2, 3, 4, 5] ?_ ?_ ?_ <;> try trivial) <;> (first | rfl | exact entd); done) | ((refine Fin.nt results130 [1, 2, 3, 4] ?_ ?_ ?_ <;> try trivial) <;> (first | rfl | exact entd); done) | ((refine Fin.nt results130 [0, 1, 2, 3] ?_ ?_ ?_ <;> try trivial) <;> (first | rfl | exact entd); done) | ((refine Fin.nt results130 [4, 5, 6, 7] ?_ ?_ ?_ <;> try trivial) <;> (first | rfl | exact entd); done) | ((refine Fin.nt results130 [5, 6, 7, 8] ?_ ?_ ?_ <;> try trivial) <;> (first | rfl | exact entd); done)
theorem c91 (x y : Mem) (hx : sizMem x <= 1048576) (hy : sizMem y <= 1048576) : Ctr prog 91 [.agg ((encMem x).map .dat), .agg ((encMem y).map .dat)] [] (.one (.dat (.bool (decide (x = y))))) [] := by
 simp only [encMem, List.map_cons, List.map_nil]
 unfold sizMem at hx hy
 have hm : maxLen = 9223372036854775807 := rfl
 refine Ctr.bd aa func91 rfl ?_
 refine evl ?_
 refine ck e180 (c180 x.Heap y.Heap (by omega) (by omega)) rfl ?_
 refine evl ?_
 constructor <;> intro h
 ·refine Fin.nt results91 [] ?_ ?_ ?_ <;> try trivial
  (refine rsl ?_; try exact .intro)
  simp_all [Mem.eq_iff]
 have eHeap := h; clear h
 refine ck e181 (c181 x.Lists y.Lists (by omega) (by omega)) rfl ?_
 refine evl ?_
 constructor <;> intro h
 ·refine Fin.nt results91 [] ?_ ?_ ?_ <;> try trivial
  (refine rsl ?_; try exact .intro)
  simp_all [Mem.eq_iff]
 have eLists := h; clear h
 refine Fin.nt results91 [] ?_ ?_ ?_ <;> try trivial
 (refine rsl ?_; try exact .intro)
 simp_all [Mem.eq_iff]
def Pin.lok (x : Pin) : Prop := True
theorem oM (n : Nat) (ds : List D) (h : WT prog n 317 ds) : ∃ x : Pin, ds = encPin x /\ x.wf /\ x.lok := by
 cases n with
 | zero => exact h.elim
 | succ n =>
  unfold WT at h
  rw [underlying317] at h
  simp only [List.toList_toArray, List.map_cons, List.map_nil, WTs] at h
  obtain ⟨_, _, rfl, h0, ⟨_, _, rfl, h1, ⟨_, _, rfl, h2, ⟨_, _, rfl, h3, rfl⟩⟩⟩⟩ := h
  obtain ⟨x0, rfl⟩ := bO underlying4 h0
  obtain ⟨x1, rfl, w1⟩ := ao underlying3 h1
  obtain ⟨x2, rfl⟩ := bO underlying4 h2
  obtain ⟨x3, rfl, w3⟩ := ao underlying3 h3
  exact ⟨⟨x0, x1, x2, x3⟩, rfl, ⟨w1, w3, trivial⟩, trivial⟩
structure Clock where
 Epoch : Int
 Pins : List Pin
 deriving DecidableEq
def encClock (x : Clock) : List D := [.int .i64 x.Epoch, .sl 4 (x.Pins.map encPin)]
def Clock.wf (x : Clock) : Prop := (Lit.int .i64 x.Epoch).wf = true /\ (∀ y ∈ x.Pins, y.wf) /\ True
theorem Clock.eq_iff (x y : Clock) : x = y ↔ x.Epoch = y.Epoch /\ x.Pins = y.Pins := by cases x; cases y; simp
def Clock.lok (x : Clock) : Prop := x.Pins.length <= maxLen /\ True
def sizClock (x : Clock) : Nat := x.Pins.length
theorem m7 (n : Nat) (ds : List D) (h : WT prog n 59 ds) : ∃ x : Clock, ds = encClock x /\ x.wf /\ x.lok := by
 cases n with
 | zero => exact h.elim
 | succ n =>
  unfold WT at h
  rw [underlying59] at h
  simp only [List.toList_toArray, List.map_cons, List.map_nil, WTs] at h
  obtain ⟨_, _, rfl, h0, ⟨_, _, rfl, h1, rfl⟩⟩ := h
  obtain ⟨x0, rfl, w0⟩ := ao underlying3 h0
  obtain ⟨x1, rfl, c1, w1⟩ := aU (enc := encPin) (q := fun x => x.wf /\ x.lok) underlying57 oE oM h1
  exact ⟨⟨x0, x1⟩, rfl, ⟨w0, fun y hy => (w1 y hy).1, trivial⟩, ⟨c1, trivial⟩⟩
theorem c117 (x : Clock) (hk : x.lok) (left : Int) (h0 : 0 <= left) (h1 : left <= 1048576) : Ctr prog 117 [.agg ((encClock x).map .dat), .one (.dat (.int .i64 left))] [] (.one (.dat (.int .i64 (szL left (sizClock x))))) [] := by
 simp only [encClock, List.map_cons, List.map_nil]
 unfold sizClock
 refine Ctr.bd aa func117 rfl ?_
 refine evl ?_
 obtain ⟨kPins, _⟩ := hk
 refine ae e201 (c201 (x.Pins.map encPin) left h0 h1 (by simpa using kPins)) rfl ?_
 refine evl ?_
 constructor <;> intro h
 ·refine Fin.nt results117 [] ?_ ?_ ?_ <;> try trivial
  (refine rsl ?_; try exact .intro)
  try simp only [List.length_map] at h
  exact ap (h) (by omega)
 try simp only [List.length_map] at h
 have a0 : decide (szL left (x.Pins.length) < 0) = false := h
 refine Fin.nt results117 [] ?_ ?_ ?_ <;> try trivial
 all_goals try ((refine rsl ?_; try exact .intro))
 all_goals try simp only [List.length_map]
theorem c131 (x : Clock) (h : sizClock x <= 1048576) : Ctr prog 131 [.agg ((encClock x).map .dat)] [] (.agg [.dat (.int .i64 x.Epoch), .own 0]) [.vec 4 true (x.Pins.map encPin)] := by
 simp only [encClock, List.map_cons, List.map_nil]
 unfold sizClock at h
 refine Ctr.bd aa func131 rfl ?_
 refine evl ?_
 refine ae e222 (c222 x.Pins (by omega)) rfl ?_
 refine evl ?_
 first | ((refine Fin.nt results131 [3] ?_ ?_ ?_ <;> try trivial) <;> (first | rfl | exact entd); done) | ((refine Fin.nt results131 [2] ?_ ?_ ?_ <;> try trivial) <;> (first | rfl | exact entd); done) | ((refine Fin.nt results131 [1] ?_ ?_ ?_ <;> try trivial) <;> (first | rfl | exact entd); done) | ((refine Fin.nt results131 [0] ?_ ?_ ?_ <;> try trivial) <;> (first | rfl | exact entd); done) | ((refine Fin.nt results131 [4] ?_ ?_ ?_ <;> try trivial) <;> (first | rfl | exact entd); done) | ((refine Fin.nt results131 [5] ?_ ?_ ?_ <;> try trivial) <;> (first | rfl | exact entd); done)
theorem c92 (x y : Clock) (hx : sizClock x <= 1048576) (hy : sizClock y <= 1048576) : Ctr prog 92 [.agg ((encClock x).map .dat), .agg ((encClock y).map .dat)] [] (.one (.dat (.bool (decide (x = y))))) [] := by
 simp only [encClock, List.map_cons, List.map_nil]
 unfold sizClock at hx hy
 have hm : maxLen = 9223372036854775807 := rfl
 refine Ctr.bd aa func92 rfl ?_
 refine evl ?_
 constructor <;> intro h
 ·refine Fin.nt results92 [] ?_ ?_ ?_ <;> try trivial
  (refine rsl ?_; try exact .intro)
  simp_all [Clock.eq_iff]
 have eEpoch := h; clear h
 refine ck e182 (c182 x.Pins y.Pins (by omega) (by omega)) rfl ?_
 refine evl ?_
 constructor <;> intro h
 ·refine Fin.nt results92 [] ?_ ?_ ?_ <;> try trivial
  (refine rsl ?_; try exact .intro)
  simp_all [Clock.eq_iff]
 have ePins := h; clear h
 refine Fin.nt results92 [] ?_ ?_ ?_ <;> try trivial
 (refine rsl ?_; try exact .intro)
 simp_all [Clock.eq_iff]
def LRow.lok (x : LRow) : Prop := True
theorem nQ (n : Nat) (ds : List D) (h : WT prog n 352 ds) : ∃ x : LRow, ds = encLRow x /\ x.wf /\ x.lok := by
 cases n with
 | zero => exact h.elim
 | succ n =>
  unfold WT at h
  rw [underlying352] at h
  simp only [List.toList_toArray, List.map_cons, List.map_nil, WTs] at h
  obtain ⟨_, _, rfl, h0, ⟨_, _, rfl, h1, rfl⟩⟩ := h
  obtain ⟨x0, rfl, w0⟩ := ao underlying3 h0
  obtain ⟨x1, rfl, w1⟩ := ao underlying3 h1
  exact ⟨⟨x0, x1⟩, rfl, ⟨w0, w1, trivial⟩, trivial⟩
structure LList where
 Rows : List LRow
 deriving DecidableEq
def encLList (x : LList) : List D := [.sl 2 (x.Rows.map encLRow)]
def LList.wf (x : LList) : Prop := (∀ y ∈ x.Rows, y.wf) /\ True
theorem LList.eq_iff (x y : LList) : x = y ↔ x.Rows = y.Rows := by cases x; cases y; simp
def LList.lok (x : LList) : Prop := x.Rows.length <= maxLen /\ True
def sizLList (x : LList) : Nat := x.Rows.length
def sizLListS (l : List LList) : Nat := l.length + (l.map sizLList).sum
theorem m8 (n : Nat) (ds : List D) (h : WT prog n 254 ds) : ∃ x : LList, ds = encLList x /\ x.wf /\ x.lok := by
 cases n with
 | zero => exact h.elim
 | succ n =>
  unfold WT at h
  rw [underlying254] at h
  simp only [List.toList_toArray, List.map_cons, List.map_nil, WTs] at h
  obtain ⟨_, _, rfl, h0, rfl⟩ := h
  obtain ⟨x0, rfl, c0, w0⟩ := aU (enc := encLRow) (q := fun x => x.wf /\ x.lok) underlying252 oH nQ h0
  exact ⟨⟨x0⟩, rfl, ⟨fun y hy => (w0 y hy).1, trivial⟩, ⟨c0, trivial⟩⟩
theorem LList.lok_of {x : LList} (h : sizLList x <= 16777216) : x.lok := by
 have hm : maxLen = 9223372036854775807 := rfl
 unfold sizLList at h
 exact ⟨by omega, trivial⟩
theorem hG {l : List LList} (h : sizLListS l <= 16777216) : l.length <= maxLen /\ ∀ y ∈ l, y.lok := by
 have hm : maxLen = 9223372036854775807 := rfl
 unfold sizLListS at h
 exact ⟨by omega, fun y hy => LList.lok_of (by have := aX sizLList hy; omega)⟩
theorem c202 (x : LList) (hk : x.lok) (left : Int) (h0 : 0 <= left) (h1 : left <= 1048576) : Ctr prog 202 [.agg ((encLList x).map .dat), .one (.dat (.int .i64 left))] [] (.one (.dat (.int .i64 (szL left (sizLList x))))) [] := by
 simp only [encLList, List.map_cons, List.map_nil]
 unfold sizLList
 refine Ctr.bd aa func202 rfl ?_
 refine evl ?_
 obtain ⟨kRows, _⟩ := hk
 refine ae e283 (c283 (x.Rows.map encLRow) left h0 h1 (by simpa using kRows)) rfl ?_
 refine evl ?_
 constructor <;> intro h
 ·refine Fin.nt results202 [] ?_ ?_ ?_ <;> try trivial
  (refine rsl ?_; try exact .intro)
  try simp only [List.length_map] at h
  exact ap (h) (by omega)
 try simp only [List.length_map] at h
 have a0 : decide (szL left (x.Rows.length) < 0) = false := h
 refine Fin.nt results202 [] ?_ ?_ ?_ <;> try trivial
 all_goals try ((refine rsl ?_; try exact .intro))
 all_goals try simp only [List.length_map]
theorem c223 (x : LList) (h : sizLList x <= 1048576) : Ctr prog 223 [.agg ((encLList x).map .dat)] [] (.agg [.own 0]) [.vec 2 true (x.Rows.map encLRow)] := by
 simp only [encLList, List.map_cons, List.map_nil]
 unfold sizLList at h
 refine Ctr.bd aa func223 rfl ?_
 refine evl ?_
 refine ae e292 (c292 x.Rows (by omega)) rfl ?_
 refine evl ?_
 first | ((refine Fin.nt results223 [3] ?_ ?_ ?_ <;> try trivial) <;> (first | rfl | exact entd); done) | ((refine Fin.nt results223 [2] ?_ ?_ ?_ <;> try trivial) <;> (first | rfl | exact entd); done) | ((refine Fin.nt results223 [1] ?_ ?_ ?_ <;> try trivial) <;> (first | rfl | exact entd); done) | ((refine Fin.nt results223 [0] ?_ ?_ ?_ <;> try trivial) <;> (first | rfl | exact entd); done) | ((refine Fin.nt results223 [4] ?_ ?_ ?_ <;> try trivial) <;> (first | rfl | exact entd); done) | ((refine Fin.nt results223 [5] ?_ ?_ ?_ <;> try trivial) <;> (first | rfl | exact entd); done)
theorem c183 (x y : LList) (hx : sizLList x <= 1048576) (hy : sizLList y <= 1048576) : Ctr prog 183 [.agg ((encLList x).map .dat), .agg ((encLList y).map .dat)] [] (.one (.dat (.bool (decide (x = y))))) [] := by
 simp only [encLList, List.map_cons, List.map_nil]
 unfold sizLList at hx hy
 have hm : maxLen = 9223372036854775807 := rfl
 refine Ctr.bd aa func183 rfl ?_
 refine evl ?_
 refine ck e275 (c275 x.Rows y.Rows (by omega) (by omega)) rfl ?_
 refine evl ?_
 constructor <;> intro h
 ·refine Fin.nt results183 [] ?_ ?_ ?_ <;> try trivial
  (refine rsl ?_; try exact .intro)
  simp_all [LList.eq_iff]
 have eRows := h; clear h
 refine Fin.nt results183 [] ?_ ?_ ?_ <;> try trivial
 (refine rsl ?_; try exact .intro)
 simp_all [LList.eq_iff]
theorem c118 (l : List LList) (hl : l.length <= maxLen) (hk : ∀ y ∈ l, y.lok) (left : Int) (h0 : 0 <= left) (h1 : left <= 1048576) : Ctr prog 118 [.one (.dat (.sl 1 (l.map encLList))), .one (.dat (.int .i64 left))] [] (.one (.dat (.int .i64 (szL left (sizLListS l))))) [] := by
 have hw := aT h0 h1 hl
 unfold sizLListS
 refine Ctr.bd aa func118 rfl ?_
 refine sv2 ?_
 constructor <;> intro h
 ·refine Fin.nt results118 [] ?_ ?_ ?_ <;> try trivial
  (refine rsl ?_; try exact .intro)
  exact ap (left := left) (a := l.length) (by rw [szL_raw]; exact h) (by omega)
 have a0 : decide (szL left l.length < 0) = false := by rw [szL_raw]; exact h
 have e0 : left - (l.length : Int) = szL left (l.length + ((l.take 0).map sizLList).sum) := by
  have := (az h1 a0).2.1; simp; exact this.symm
 rw [e0]
 refine ab (fun n s => ∃ i : Nat, i <= l.length /\ n = l.length - i /\ decide (szL left (l.length + ((l.take i).map sizLList).sum) < 0) = false /\ s = mkSt [(5, .one (.dat (.int .i64 i))), (1, .one (.dat (.int .i64 (szL left (l.length + ((l.take i).map sizLList).sum))))), (0, .one (.dat (.sl 1 (l.map encLList))))] []) l.length _
  (Ent.wk []) ⟨0, by omega, by omega, by simpa using a0, rfl⟩ ?_
 rintro n s ⟨i, hi, rfl, ht, rfl⟩ K hK
 rcases Nat.lt_or_ge i l.length with hlt | hge
 ·have hdi : decide ((i : Int) < l.length) = true := by simpa using hlt
  have hwi := ah hlt hl
  have hs := a9 sizLList hlt
  have hs2 := bt sizLList l (i + 1)
  obtain ⟨_, _, g, u⟩ := az h1 ht
  simp (maxSteps := 2000000) only [go_sem, seval, hdi, hwi, getD_map hlt, encLList]
  refine ⟨⟨by omega, by omega⟩, hlt, ?_⟩
  refine ae e202 (c202 l[i] (hk _ (List.getElem_mem hlt)) _ g u) rfl ?_
  refine sv4 ?_
  rw [Nat.add_assoc, <- hs]
  constructor <;> intro h
  ·apply hK
   refine evl ?_
   refine Fin.nt results118 [] ?_ ?_ ?_ <;> try trivial
   (refine rsl ?_; try exact .intro)
   exact ap h (by omega)
  ·apply hK
   exact ⟨l.length - (i + 1), _, by omega, Ent.wk [], i + 1, by omega, rfl, h, rfl⟩
 ·have hge' : i = l.length := by omega
  subst hge'
  have hdi : decide ((l.length : Int) < l.length) = false := by simp
  refine sv3 ?_
  apply hK
  refine evl ?_
  refine Fin.nt results118 [] ?_ ?_ ?_ <;> try trivial
  all_goals try ((refine rsl ?_; try exact .intro))
  all_goals simp
theorem c132 (l : List LList) (h : sizLListS l <= 1048576) : Ctr prog 132 [.one (.dat (.sl 1 (l.map encLList)))] [] (.one (.own 0)) [.vec 1 true (l.map encLList)] := by
 have hl : l.length <= 1048576 := by unfold sizLListS at h; omega
 refine Ctr.bd aa func132 rfl ?_
 refine evl ?_
 refine ⟨by omega, ?_⟩
 refine ab (fun n s => ∃ i : Nat, i <= l.length /\ n = l.length - i /\ s = mkSt [(4, .one (.dat (.int .i64 i))), (3, .one (.own 0)), (0, .one (.dat (.sl 1 (l.map encLList))))]
   [.vec 1 true ((l.take i).map encLList ++ List.replicate (l.length - i) [.sl 2 []])]) l.length _
  (Ent.wk [0]) ⟨0, by omega, by omega, rfl⟩ ?_
 rintro n s ⟨i, hi, rfl, rfl⟩ K hK
 rcases Nat.lt_or_ge i l.length with hlt | hge
 ·have hdi : decide ((i : Int) < l.length) = true := by simpa using hlt
  simp (maxSteps := 2000000) only [go_sem, seval, hdi, getD_map hlt, encLList, D.flat, ah hlt (le20 hl)]
  first | refine ⟨⟨by omega, by omega⟩, hlt, ?_⟩ | refine ⟨by omega, hlt, ?_⟩
  refine ae e223 (c223 l[i] (by have := au sizLList hlt; unfold sizLListS at h; omega)) rfl ?_
  simp (maxSteps := 2000000) only [go_sem, seval, encLList, D.flat, ah hlt (le20 hl)]
  repeat' ((with_reducible show _ /\ _); apply And.intro)
  all_goals first
   | (apply hK
      refine ⟨l.length - (i + 1), _, by omega, Ent.weak (ids := [0]) (by simp) rfl (by simp) ?_ ?_ ?_, i + 1, by omega, rfl, rfl⟩
      ·simp only [objsLe, St.obj, find, AObj.renF, if_true, Option.getD_some, List.getD_cons_zero, and_true]
       rw [<- aS encLList l _ hlt]
       exact ⟨by simp, Or.inr rfl⟩
      ·simp [objsLe, envLe, find, St.obj, AObj.renF, AV.renF, AV.renF1, Leaf.renF, LowAll, AV.Low, AV.Low1, Leaf.Low, AObj.Low, Ptr.renF, Ptr.Low]
      ·simp [objsLe, envLe, find, St.obj, AObj.renF, AV.renF, AV.renF1, Leaf.renF, LowAll, AV.Low, AV.Low1, Leaf.Low, AObj.Low, Ptr.renF, Ptr.Low])
   | omega
   | decide
   | (simp; done)
   | (simp; omega)
   | trivial
 ·have hge' : i = l.length := by omega
  subst hge'
  have hdi : decide ((l.length : Int) < l.length) = false := by simp
  refine sv3 ?_
  apply hK
  refine evl ?_
  refine Fin.nt results132 [0] ?_ ?_ ?_ <;> try trivial
  all_goals simp [objsLe, St.obj, find, AObj.renF]
theorem c93 (l l' : List LList) (h0 : sizLListS l <= 1048576) (h0' : sizLListS l' <= 1048576) : Ctr prog 93 [.one (.dat (.sl 1 (l.map encLList))), .one (.dat (.sl 1 (l'.map encLList)))] [] (.one (.dat (.bool (decide (l = l'))))) [] := by
 have hl : l.length <= maxLen := (hG (by omega)).1
 have hl' : l'.length <= maxLen := (hG (by omega)).1
 refine Ctr.bd aa func93 rfl ?_
 refine evl ?_
 constructor <;> intro h
 ·have hne : l.length ≠ l'.length := by simp at h; omega
  refine Fin.nt results93 [] ?_ ?_ ?_ <;> try trivial
  (refine rsl ?_; try exact .intro)
  symm; rw [decide_eq_false_iff_not]
  intro e; exact hne (by rw [e])
 have hlen : l.length = l'.length := by simp at h; omega
 refine ab (fun n s => ∃ i : Nat, i <= l.length /\ n = l.length - i /\ l.take i = l'.take i /\ s = mkSt [(5, .one (.dat (.int .i64 i))), (1, .one (.dat (.sl 1 (l'.map encLList)))), (0, .one (.dat (.sl 1 (l.map encLList))))] []) l.length _
  (Ent.wk []) ⟨0, by omega, by omega, rfl, rfl⟩ ?_
 rintro n s ⟨i, hi, rfl, ht, rfl⟩ K hK
 rcases Nat.lt_or_ge i l.length with hlt | hge
 ·have hdi : decide ((i : Int) < l.length) = true := by simpa using hlt
  have hlt' : i < l'.length := by omega
  simp (maxSteps := 2000000) only [go_sem, seval, hdi, ah hlt hl, getD_map hlt, getD_map hlt', encLList]
  refine ⟨⟨by omega, by omega⟩, hlt, ⟨by omega, by omega⟩, hlt', ?_⟩
  first
   | refine aj e183 (fun _ => ⟨trivial, c183 l[i] l'[i] (by have := au sizLList hlt; unfold sizLListS at h0; omega) (by have := au sizLList hlt'; unfold sizLListS at h0'; omega)⟩) rfl rfl ?_
   | refine Or.inl (aj e183 (fun _ => ⟨trivial, c183 l[i] l'[i] (by have := au sizLList hlt; unfold sizLListS at h0; omega) (by have := au sizLList hlt'; unfold sizLListS at h0'; omega)⟩) rfl rfl ?_)
  refine sv0 ?_
  constructor <;> intro h
  ·apply hK
   refine evl ?_
   refine Fin.nt results93 [] ?_ ?_ ?_ <;> try trivial
   (refine rsl ?_; try exact .intro)
   symm; rw [decide_eq_false_iff_not]
   rintro rfl; simp at h
  ·apply hK
   have he : l[i] = l'[i] := by simpa using h
   exact ⟨l.length - (i + 1), _, by omega, Ent.wk [], i + 1, by omega, rfl, by rw [List.take_succ_eq_append_getElem hlt, List.take_succ_eq_append_getElem hlt', ht, he], rfl⟩
 ·have hge' : i = l.length := by omega
  subst hge'
  have hdi : decide ((l.length : Int) < l.length) = false := by simp
  refine sv3 ?_
  apply hK
  refine evl ?_
  refine Fin.nt results93 [] ?_ ?_ ?_ <;> try trivial
  (refine rsl ?_; try exact .intro)
  symm; rw [decide_eq_true_iff]
  rw [List.take_of_length_le (Nat.le_refl _), List.take_of_length_le (by omega)] at ht
  exact ht
structure Base where
 Mem : Mem
 Clock : Clock
 Limbo : List LList
 Haz : List Int
 deriving DecidableEq
def encBase (x : Base) : List D := [.sl 1 (x.Mem.Heap.Bytes.map encI), .sl 1 (x.Mem.Heap.Class.map encI), .sl 1 (x.Mem.Lists.Global.map encSList), .sl 1 (x.Mem.Lists.Own.map encSList), .int .i64 x.Clock.Epoch, .sl 4 (x.Clock.Pins.map encPin), .sl 1 (x.Limbo.map encLList), .sl 1 (x.Haz.map encI)]
def Base.wf (x : Base) : Prop := x.Mem.wf /\ x.Clock.wf /\ (∀ y ∈ x.Limbo, y.wf) /\ (∀ y ∈ x.Haz, (Lit.int .i64 y).wf = true) /\ True
theorem Base.eq_iff (x y : Base) : x = y ↔ x.Mem = y.Mem /\ x.Clock = y.Clock /\ x.Limbo = y.Limbo /\ x.Haz = y.Haz := by cases x; cases y; simp
def Base.lok (x : Base) : Prop := x.Mem.lok /\ x.Clock.lok /\ x.Limbo.length <= maxLen /\ (∀ y ∈ x.Limbo, y.lok) /\ x.Haz.length <= maxLen /\ True
def sizBase (x : Base) : Nat := sizMem x.Mem + sizClock x.Clock + sizLListS x.Limbo + x.Haz.length
theorem nR (n : Nat) (ds : List D) (h : WT prog n 62 ds) : ∃ x : Base, ds = encBase x /\ x.wf /\ x.lok := by
 cases n with
 | zero => exact h.elim
 | succ n =>
  unfold WT at h
  rw [underlying62] at h
  simp only [List.toList_toArray, List.map_cons, List.map_nil, WTs] at h
  obtain ⟨_, _, rfl, h0, ⟨_, _, rfl, h1, ⟨_, _, rfl, h2, ⟨_, _, rfl, h3, rfl⟩⟩⟩⟩ := h
  obtain ⟨x0, rfl, w0, k0⟩ := oL _ _ h0
  obtain ⟨x1, rfl, w1, k1⟩ := m7 _ _ h1
  obtain ⟨x2, rfl, c2, w2⟩ := aU (enc := encLList) (q := fun x => x.wf /\ x.lok) underlying60 oD m8 h2
  obtain ⟨x3, rfl, c3, w3⟩ := aU (enc := encI) (q := fun x => (Lit.int .i64 x).wf = true) underlying24 tc_3 (fun _ _ h => ao underlying3 h) h3
  exact ⟨⟨x0, x1, x2, x3⟩, rfl, ⟨w0, w1, fun y hy => (w2 y hy).1, w3, trivial⟩, ⟨k0, k1, c2, fun y hy => (w2 y hy).2, c3, trivial⟩⟩
theorem c47 (x : Base) (hk : x.lok) (left : Int) (h0 : 0 <= left) (h1 : left <= 1048576) : Ctr prog 47 [.agg ((encBase x).map .dat), .one (.dat (.int .i64 left))] [] (.one (.dat (.int .i64 (szL left (sizBase x))))) [] := by
 simp only [encBase, List.map_cons, List.map_nil]
 unfold sizBase
 refine Ctr.bd aa func47 rfl ?_
 refine evl ?_
 obtain ⟨kMem, kClock, kLimbo, qLimbo, kHaz, _⟩ := hk
 refine ae e116 (c116 x.Mem kMem left h0 h1) rfl ?_
 refine evl ?_
 constructor <;> intro h
 ·refine Fin.nt results47 [] ?_ ?_ ?_ <;> try trivial
  (refine rsl ?_; try exact .intro)
  try simp only [List.length_map] at h
  exact ap (h) (by omega)
 try simp only [List.length_map] at h
 have a0 : decide (szL left (sizMem x.Mem) < 0) = false := h
 obtain ⟨_, _, g0, u0⟩ := az h1 a0
 try simp only [List.length_map]
 refine ae e117 (c117 x.Clock kClock (szL left (sizMem x.Mem)) g0 u0) rfl ?_
 refine evl ?_
 constructor <;> intro h
 ·refine Fin.nt results47 [] ?_ ?_ ?_ <;> try trivial
  (refine rsl ?_; try exact .intro)
  try simp only [List.length_map] at h
  exact ap (am h0 a0 ▸ h) (by omega)
 try simp only [List.length_map] at h
 have a1 : decide (szL left (sizMem x.Mem + sizClock x.Clock) < 0) = false := am h0 a0 ▸ h
 obtain ⟨_, _, g1, u1⟩ := az h1 a1
 try simp only [List.length_map]
 rw [am h0 a0]
 refine ae e118 (c118 x.Limbo kLimbo qLimbo (szL left (sizMem x.Mem + sizClock x.Clock)) g1 u1) rfl ?_
 refine evl ?_
 constructor <;> intro h
 ·refine Fin.nt results47 [] ?_ ?_ ?_ <;> try trivial
  (refine rsl ?_; try exact .intro)
  try simp only [List.length_map] at h
  exact ap (am h0 a1 ▸ h) (by omega)
 try simp only [List.length_map] at h
 have a2 : decide (szL left (sizMem x.Mem + sizClock x.Clock + sizLListS x.Limbo) < 0) = false := am h0 a1 ▸ h
 obtain ⟨_, _, g2, u2⟩ := az h1 a2
 try simp only [List.length_map]
 rw [am h0 a1]
 refine ae e119 (c119 (x.Haz.map encI) (szL left (sizMem x.Mem + sizClock x.Clock + sizLListS x.Limbo)) g2 u2 (by simpa using kHaz)) rfl ?_
 refine evl ?_
 constructor <;> intro h
 ·refine Fin.nt results47 [] ?_ ?_ ?_ <;> try trivial
  (refine rsl ?_; try exact .intro)
  try simp only [List.length_map] at h
  exact ap (am h0 a2 ▸ h) (by omega)
 try simp only [List.length_map] at h
 have a3 : decide (szL left (sizMem x.Mem + sizClock x.Clock + sizLListS x.Limbo + x.Haz.length) < 0) = false := am h0 a2 ▸ h
 refine Fin.nt results47 [] ?_ ?_ ?_ <;> try trivial
 all_goals try ((refine rsl ?_; try exact .intro))
 all_goals try simp only [List.length_map]
 all_goals try exact am h0 a2
theorem c56 (x : Base) (h : sizBase x <= 1048576) : Ctr prog 56 [.agg ((encBase x).map .dat)] [] (.agg [.own 0, .own 1, .own 2, .own 3, .dat (.int .i64 x.Clock.Epoch), .own 4, .own 5, .own 6]) [.vec 1 true (x.Mem.Heap.Bytes.map encI), .vec 1 true (x.Mem.Heap.Class.map encI), .vec 1 true (x.Mem.Lists.Global.map encSList), .vec 1 true (x.Mem.Lists.Own.map encSList), .vec 4 true (x.Clock.Pins.map encPin), .vec 1 true (x.Limbo.map encLList), .vec 1 true (x.Haz.map encI)] := by
 simp only [encBase, List.map_cons, List.map_nil]
 unfold sizBase at h
 refine Ctr.bd aa func56 rfl ?_
 refine evl ?_
 refine ae e130 (c130 x.Mem (by omega)) rfl ?_
 refine evl ?_
 refine ae e131 (c131 x.Clock (by omega)) rfl ?_
 refine evl ?_
 refine ae e132 (c132 x.Limbo (by omega)) rfl ?_
 refine evl ?_
 refine ae e133 (c133 x.Haz (by omega)) rfl ?_
 refine evl ?_
 first | ((refine Fin.nt results56 [3, 4, 5, 6, 7, 8, 9] ?_ ?_ ?_ <;> try trivial) <;> (first | rfl | exact entd); done) | ((refine Fin.nt results56 [2, 3, 4, 5, 6, 7, 8] ?_ ?_ ?_ <;> try trivial) <;> (first | rfl | exact entd); done) | ((refine Fin.nt results56 [1, 2, 3, 4, 5, 6, 7] ?_ ?_ ?_ <;> try trivial) <;> (first | rfl | exact entd); done) | ((refine Fin.nt results56 [0, 1, 2, 3, 4, 5, 6] ?_ ?_ ?_ <;> try trivial) <;> (first | rfl | exact entd); done) | ((refine Fin.nt results56 [4, 5, 6, 7, 8, 9, 10] ?_ ?_ ?_ <;> try trivial) <;> (first | rfl | exact entd); done) | ((refine Fin.nt results56 [5, 6, 7, 8, 9, 10, 11] ?_ ?_ ?_ <;> try trivial) <;> (first | rfl | exact entd); done)
theorem c32 (x y : Base) (hx : sizBase x <= 1048576) (hy : sizBase y <= 1048576) : Ctr prog 32 [.agg ((encBase x).map .dat), .agg ((encBase y).map .dat)] [] (.one (.dat (.bool (decide (x = y))))) [] := by
 simp only [encBase, List.map_cons, List.map_nil]
 unfold sizBase at hx hy
 have hm : maxLen = 9223372036854775807 := rfl
 refine Ctr.bd aa func32 rfl ?_
 refine evl ?_
 refine ck e91 (c91 x.Mem y.Mem (by omega) (by omega)) rfl ?_
 refine evl ?_
 constructor <;> intro h
 ·refine Fin.nt results32 [] ?_ ?_ ?_ <;> try trivial
  (refine rsl ?_; try exact .intro)
  simp_all [Base.eq_iff]
 have eMem := h; clear h
 refine ck e92 (c92 x.Clock y.Clock (by omega) (by omega)) rfl ?_
 refine evl ?_
 constructor <;> intro h
 ·refine Fin.nt results32 [] ?_ ?_ ?_ <;> try trivial
  (refine rsl ?_; try exact .intro)
  simp_all [Base.eq_iff]
 have eClock := h; clear h
 refine ck e93 (c93 x.Limbo y.Limbo (by omega) (by omega)) rfl ?_
 refine evl ?_
 constructor <;> intro h
 ·refine Fin.nt results32 [] ?_ ?_ ?_ <;> try trivial
  (refine rsl ?_; try exact .intro)
  simp_all [Base.eq_iff]
 have eLimbo := h; clear h
 refine ck e94 (c94 x.Haz y.Haz (by omega) (by omega)) rfl ?_
 refine evl ?_
 constructor <;> intro h
 ·refine Fin.nt results32 [] ?_ ?_ ?_ <;> try trivial
  (refine rsl ?_; try exact .intro)
  simp_all [Base.eq_iff]
 have eHaz := h; clear h
 refine Fin.nt results32 [] ?_ ?_ ?_ <;> try trivial
 (refine rsl ?_; try exact .intro)
 simp_all [Base.eq_iff]
structure Sub where
 Kind : Int
 A : Int
 Pc : Int
 E : Int
 Row : Int
 B : Int
 H : Int
 Out : Int
 Code : Int
 Done : Bool
 deriving DecidableEq
def encSub (x : Sub) : List D := [.int .i64 x.Kind, .int .i64 x.A, .int .i64 x.Pc, .int .i64 x.E, .int .i64 x.Row, .int .i64 x.B, .int .i64 x.H, .int .i64 x.Out, .int .i64 x.Code, .bool x.Done]
def Sub.wf (x : Sub) : Prop := (Lit.int .i64 x.Kind).wf = true /\ (Lit.int .i64 x.A).wf = true /\ (Lit.int .i64 x.Pc).wf = true /\ (Lit.int .i64 x.E).wf = true /\ (Lit.int .i64 x.Row).wf = true /\ (Lit.int .i64 x.B).wf = true /\ (Lit.int .i64 x.H).wf = true /\ (Lit.int .i64 x.Out).wf = true /\ (Lit.int .i64 x.Code).wf = true /\ True
theorem Sub.eq_iff (x y : Sub) : x = y ↔ x.Kind = y.Kind /\ x.A = y.A /\ x.Pc = y.Pc /\ x.E = y.E /\ x.Row = y.Row /\ x.B = y.B /\ x.H = y.H /\ x.Out = y.Out /\ x.Code = y.Code /\ x.Done = y.Done := by cases x; cases y; simp
def Sub.lok (x : Sub) : Prop := True
def zeroSub : Sub := ⟨0, 0, 0, 0, 0, 0, 0, 0, 0, false⟩
theorem oN (n : Nat) (ds : List D) (h : WT prog n 173 ds) : ∃ x : Sub, ds = encSub x /\ x.wf /\ x.lok := by
 cases n with
 | zero => exact h.elim
 | succ n =>
  unfold WT at h
  rw [underlying173] at h
  simp only [List.toList_toArray, List.map_cons, List.map_nil, WTs] at h
  obtain ⟨_, _, rfl, h0, ⟨_, _, rfl, h1, ⟨_, _, rfl, h2, ⟨_, _, rfl, h3, ⟨_, _, rfl, h4, ⟨_, _, rfl, h5, ⟨_, _, rfl, h6, ⟨_, _, rfl, h7, ⟨_, _, rfl, h8, ⟨_, _, rfl, h9, rfl⟩⟩⟩⟩⟩⟩⟩⟩⟩⟩ := h
  obtain ⟨x0, rfl, w0⟩ := ao underlying3 h0
  obtain ⟨x1, rfl, w1⟩ := ao underlying3 h1
  obtain ⟨x2, rfl, w2⟩ := ao underlying3 h2
  obtain ⟨x3, rfl, w3⟩ := ao underlying3 h3
  obtain ⟨x4, rfl, w4⟩ := ao underlying3 h4
  obtain ⟨x5, rfl, w5⟩ := ao underlying3 h5
  obtain ⟨x6, rfl, w6⟩ := ao underlying3 h6
  obtain ⟨x7, rfl, w7⟩ := ao underlying3 h7
  obtain ⟨x8, rfl, w8⟩ := ao underlying3 h8
  obtain ⟨x9, rfl⟩ := bO underlying4 h9
  exact ⟨⟨x0, x1, x2, x3, x4, x5, x6, x7, x8, x9⟩, rfl, ⟨w0, w1, w2, w3, w4, w5, w6, w7, w8, trivial⟩, trivial⟩
theorem c225 (x : Sub) : Ctr prog 225 [.agg ((encSub x).map .dat)] [] (.agg [.dat (.int .i64 x.Kind), .dat (.int .i64 x.A), .dat (.int .i64 x.Pc), .dat (.int .i64 x.E), .dat (.int .i64 x.Row), .dat (.int .i64 x.B), .dat (.int .i64 x.H), .dat (.int .i64 x.Out), .dat (.int .i64 x.Code), .dat (.bool x.Done)]) [] := by
 simp only [encSub, List.map_cons, List.map_nil]
 refine Ctr.bd aa func225 rfl ?_
 refine evl ?_
 first | ((refine Fin.nt results225 [] ?_ ?_ ?_ <;> try trivial) <;> (first | rfl | exact entd); done) | ((refine Fin.nt results225 [] ?_ ?_ ?_ <;> try trivial) <;> (first | rfl | exact entd); done) | ((refine Fin.nt results225 [] ?_ ?_ ?_ <;> try trivial) <;> (first | rfl | exact entd); done) | ((refine Fin.nt results225 [] ?_ ?_ ?_ <;> try trivial) <;> (first | rfl | exact entd); done) | ((refine Fin.nt results225 [] ?_ ?_ ?_ <;> try trivial) <;> (first | rfl | exact entd); done) | ((refine Fin.nt results225 [] ?_ ?_ ?_ <;> try trivial) <;> (first | rfl | exact entd); done)
theorem c186 (x y : Sub) : Ctr prog 186 [.agg ((encSub x).map .dat), .agg ((encSub y).map .dat)] [] (.one (.dat (.bool (decide (x = y))))) [] := by
 simp only [encSub, List.map_cons, List.map_nil]
 refine Ctr.bd aa func186 rfl ?_
 refine evl ?_
 constructor <;> intro h
 ·refine Fin.nt results186 [] ?_ ?_ ?_ <;> try trivial
  (refine rsl ?_; try exact .intro)
  simp_all [Sub.eq_iff]
 have eKind := h; clear h
 constructor <;> intro h
 ·refine Fin.nt results186 [] ?_ ?_ ?_ <;> try trivial
  (refine rsl ?_; try exact .intro)
  simp_all [Sub.eq_iff]
 have eA := h; clear h
 constructor <;> intro h
 ·refine Fin.nt results186 [] ?_ ?_ ?_ <;> try trivial
  (refine rsl ?_; try exact .intro)
  simp_all [Sub.eq_iff]
 have ePc := h; clear h
 constructor <;> intro h
 ·refine Fin.nt results186 [] ?_ ?_ ?_ <;> try trivial
  (refine rsl ?_; try exact .intro)
  simp_all [Sub.eq_iff]
 have eE := h; clear h
 constructor <;> intro h
 ·refine Fin.nt results186 [] ?_ ?_ ?_ <;> try trivial
  (refine rsl ?_; try exact .intro)
  simp_all [Sub.eq_iff]
 have eRow := h; clear h
 constructor <;> intro h
 ·refine Fin.nt results186 [] ?_ ?_ ?_ <;> try trivial
  (refine rsl ?_; try exact .intro)
  simp_all [Sub.eq_iff]
 have eB := h; clear h
 constructor <;> intro h
 ·refine Fin.nt results186 [] ?_ ?_ ?_ <;> try trivial
  (refine rsl ?_; try exact .intro)
  simp_all [Sub.eq_iff]
 have eH := h; clear h
 constructor <;> intro h
 ·refine Fin.nt results186 [] ?_ ?_ ?_ <;> try trivial
  (refine rsl ?_; try exact .intro)
  simp_all [Sub.eq_iff]
 have eOut := h; clear h
 constructor <;> intro h
 ·refine Fin.nt results186 [] ?_ ?_ ?_ <;> try trivial
  (refine rsl ?_; try exact .intro)
  simp_all [Sub.eq_iff]
 have eCode := h; clear h
 constructor <;> intro h
 ·refine Fin.nt results186 [] ?_ ?_ ?_ <;> try trivial
  (refine rsl ?_; try exact .intro)
  simp_all [Sub.eq_iff]
 have eDone := h; clear h
 refine Fin.nt results186 [] ?_ ?_ ?_ <;> try trivial
 (refine rsl ?_; try exact .intro)
 simp_all [Sub.eq_iff]
def Node.lok (x : Node) : Prop := True
def zeroNode : Node := ⟨0, 0, 0⟩
theorem nS (n : Nat) (ds : List D) (h : WT prog n 172 ds) : ∃ x : Node, ds = encNode x /\ x.wf /\ x.lok := by
 cases n with
 | zero => exact h.elim
 | succ n =>
  unfold WT at h
  rw [underlying172] at h
  simp only [List.toList_toArray, List.map_cons, List.map_nil, WTs] at h
  obtain ⟨_, _, rfl, h0, ⟨_, _, rfl, h1, ⟨_, _, rfl, h2, rfl⟩⟩⟩ := h
  obtain ⟨x0, rfl, w0⟩ := ao underlying3 h0
  obtain ⟨x1, rfl, w1⟩ := ao underlying3 h1
  obtain ⟨x2, rfl, w2⟩ := ao underlying3 h2
  exact ⟨⟨x0, x1, x2⟩, rfl, ⟨w0, w1, w2, trivial⟩, trivial⟩
def Bkt.lok (x : Bkt) : Prop := True
theorem oO (n : Nat) (ds : List D) (h : WT prog n 194 ds) : ∃ x : Bkt, ds = encBkt x /\ x.wf /\ x.lok := by
 cases n with
 | zero => exact h.elim
 | succ n =>
  unfold WT at h
  rw [underlying194] at h
  simp only [List.toList_toArray, List.map_cons, List.map_nil, WTs] at h
  obtain ⟨_, _, rfl, h0, ⟨_, _, rfl, h1, ⟨_, _, rfl, h2, rfl⟩⟩⟩ := h
  obtain ⟨x0, rfl, w0⟩ := ao underlying3 h0
  obtain ⟨x1, rfl, w1⟩ := ao underlying3 h1
  obtain ⟨x2, rfl, w2⟩ := ao underlying3 h2
  exact ⟨⟨x0, x1, x2⟩, rfl, ⟨w0, w1, w2, trivial⟩, trivial⟩
def Cmd.lok (x : Cmd) : Prop := True
theorem mc (n : Nat) (ds : List D) (h : WT prog n 326 ds) : ∃ x : Cmd, ds = encCmd x /\ x.wf /\ x.lok := by
 cases n with
 | zero => exact h.elim
 | succ n =>
  unfold WT at h
  rw [underlying326] at h
  simp only [List.toList_toArray, List.map_cons, List.map_nil, WTs] at h
  obtain ⟨_, _, rfl, h0, ⟨_, _, rfl, h1, ⟨_, _, rfl, h2, rfl⟩⟩⟩ := h
  obtain ⟨x0, rfl, w0⟩ := ao underlying3 h0
  obtain ⟨x1, rfl, w1⟩ := ao underlying3 h1
  obtain ⟨x2, rfl, w2⟩ := ao underlying3 h2
  exact ⟨⟨x0, x1, x2⟩, rfl, ⟨w0, w1, w2, trivial⟩, trivial⟩
def Seen.lok (x : Seen) : Prop := True
theorem nT (n : Nat) (ds : List D) (h : WT prog n 320 ds) : ∃ x : Seen, ds = encSeen x /\ x.wf /\ x.lok := by
 cases n with
 | zero => exact h.elim
 | succ n =>
  unfold WT at h
  rw [underlying320] at h
  simp only [List.toList_toArray, List.map_cons, List.map_nil, WTs] at h
  obtain ⟨_, _, rfl, h0, ⟨_, _, rfl, h1, rfl⟩⟩ := h
  obtain ⟨x0, rfl, w0⟩ := ao underlying3 h0
  obtain ⟨x1, rfl, w1⟩ := ao underlying3 h1
  exact ⟨⟨x0, x1⟩, rfl, ⟨w0, w1, trivial⟩, trivial⟩
def Write.lok (x : Write) : Prop := True
theorem m9 (n : Nat) (ds : List D) (h : WT prog n 322 ds) : ∃ x : Write, ds = encWrite x /\ x.wf /\ x.lok := by
 cases n with
 | zero => exact h.elim
 | succ n =>
  unfold WT at h
  rw [underlying322] at h
  simp only [List.toList_toArray, List.map_cons, List.map_nil, WTs] at h
  obtain ⟨_, _, rfl, h0, ⟨_, _, rfl, h1, ⟨_, _, rfl, h2, rfl⟩⟩⟩ := h
  obtain ⟨x0, rfl, w0⟩ := ao underlying3 h0
  obtain ⟨x1, rfl⟩ := bO underlying4 h1
  obtain ⟨x2, rfl, w2⟩ := ao underlying3 h2
  exact ⟨⟨x0, x1, x2⟩, rfl, ⟨w0, w2, trivial⟩, trivial⟩
structure Batch where
 Collect : Bool
 Cmds : List Cmd
 deriving DecidableEq
def encBatch (x : Batch) : List D := [.bool x.Collect, .sl 3 (x.Cmds.map encCmd)]
def Batch.wf (x : Batch) : Prop := (∀ y ∈ x.Cmds, y.wf) /\ True
theorem Batch.eq_iff (x y : Batch) : x = y ↔ x.Collect = y.Collect /\ x.Cmds = y.Cmds := by cases x; cases y; simp
def Batch.lok (x : Batch) : Prop := x.Cmds.length <= maxLen /\ True
def sizBatch (x : Batch) : Nat := x.Cmds.length
def sizBatchS (l : List Batch) : Nat := l.length + (l.map sizBatch).sum
def zeroBatch : Batch := ⟨false, []⟩
theorem jg (n : Nat) (ds : List D) (h : WT prog n 171 ds) : ∃ x : Batch, ds = encBatch x /\ x.wf /\ x.lok := by
 cases n with
 | zero => exact h.elim
 | succ n =>
  unfold WT at h
  rw [underlying171] at h
  simp only [List.toList_toArray, List.map_cons, List.map_nil, WTs] at h
  obtain ⟨_, _, rfl, h0, ⟨_, _, rfl, h1, rfl⟩⟩ := h
  obtain ⟨x0, rfl⟩ := bO underlying4 h0
  obtain ⟨x1, rfl, c1, w1⟩ := aU (enc := encCmd) (q := fun x => x.wf /\ x.lok) underlying169 lJ mc h1
  exact ⟨⟨x0, x1⟩, rfl, ⟨fun y hy => (w1 y hy).1, trivial⟩, ⟨c1, trivial⟩⟩
theorem Batch.lok_of {x : Batch} (h : sizBatch x <= 16777216) : x.lok := by
 have hm : maxLen = 9223372036854775807 := rfl
 unfold sizBatch at h
 exact ⟨by omega, trivial⟩
theorem hH {l : List Batch} (h : sizBatchS l <= 16777216) : l.length <= maxLen /\ ∀ y ∈ l, y.lok := by
 have hm : maxLen = 9223372036854775807 := rfl
 unfold sizBatchS at h
 exact ⟨by omega, fun y hy => Batch.lok_of (by have := aX sizBatch hy; omega)⟩
theorem c166 (x : Batch) (hk : x.lok) (left : Int) (h0 : 0 <= left) (h1 : left <= 1048576) : Ctr prog 166 [.agg ((encBatch x).map .dat), .one (.dat (.int .i64 left))] [] (.one (.dat (.int .i64 (szL left (sizBatch x))))) [] := by
 simp only [encBatch, List.map_cons, List.map_nil]
 unfold sizBatch
 refine Ctr.bd aa func166 rfl ?_
 refine evl ?_
 obtain ⟨kCmds, _⟩ := hk
 refine ae e206 (c206 (x.Cmds.map encCmd) left h0 h1 (by simpa using kCmds)) rfl ?_
 refine evl ?_
 constructor <;> intro h
 ·refine Fin.nt results166 [] ?_ ?_ ?_ <;> try trivial
  (refine rsl ?_; try exact .intro)
  try simp only [List.length_map] at h
  exact ap (h) (by omega)
 try simp only [List.length_map] at h
 have a0 : decide (szL left (x.Cmds.length) < 0) = false := h
 refine Fin.nt results166 [] ?_ ?_ ?_ <;> try trivial
 all_goals try ((refine rsl ?_; try exact .intro))
 all_goals try simp only [List.length_map]
theorem c171 (x : Batch) (h : sizBatch x <= 1048576) : Ctr prog 171 [.agg ((encBatch x).map .dat)] [] (.agg [.dat (.bool x.Collect), .own 0]) [.vec 3 true (x.Cmds.map encCmd)] := by
 simp only [encBatch, List.map_cons, List.map_nil]
 unfold sizBatch at h
 refine Ctr.bd aa func171 rfl ?_
 refine evl ?_
 refine ae e229 (c229 x.Cmds (by omega)) rfl ?_
 refine evl ?_
 first | ((refine Fin.nt results171 [3] ?_ ?_ ?_ <;> try trivial) <;> (first | rfl | exact entd); done) | ((refine Fin.nt results171 [2] ?_ ?_ ?_ <;> try trivial) <;> (first | rfl | exact entd); done) | ((refine Fin.nt results171 [1] ?_ ?_ ?_ <;> try trivial) <;> (first | rfl | exact entd); done) | ((refine Fin.nt results171 [0] ?_ ?_ ?_ <;> try trivial) <;> (first | rfl | exact entd); done) | ((refine Fin.nt results171 [4] ?_ ?_ ?_ <;> try trivial) <;> (first | rfl | exact entd); done) | ((refine Fin.nt results171 [5] ?_ ?_ ?_ <;> try trivial) <;> (first | rfl | exact entd); done)
theorem c184 (x y : Batch) (hx : sizBatch x <= 1048576) (hy : sizBatch y <= 1048576) : Ctr prog 184 [.agg ((encBatch x).map .dat), .agg ((encBatch y).map .dat)] [] (.one (.dat (.bool (decide (x = y))))) [] := by
 simp only [encBatch, List.map_cons, List.map_nil]
 unfold sizBatch at hx hy
 have hm : maxLen = 9223372036854775807 := rfl
 refine Ctr.bd aa func184 rfl ?_
 refine evl ?_
 constructor <;> intro h
 ·refine Fin.nt results184 [] ?_ ?_ ?_ <;> try trivial
  (refine rsl ?_; try exact .intro)
  simp_all [Batch.eq_iff]
 have eCollect := h; clear h
 refine ck e190 (c190 x.Cmds y.Cmds (by omega) (by omega)) rfl ?_
 refine evl ?_
 constructor <;> intro h
 ·refine Fin.nt results184 [] ?_ ?_ ?_ <;> try trivial
  (refine rsl ?_; try exact .intro)
  simp_all [Batch.eq_iff]
 have eCmds := h; clear h
 refine Fin.nt results184 [] ?_ ?_ ?_ <;> try trivial
 (refine rsl ?_; try exact .intro)
 simp_all [Batch.eq_iff]
theorem c73 (l : List Batch) (hl : l.length <= maxLen) (hk : ∀ y ∈ l, y.lok) (left : Int) (h0 : 0 <= left) (h1 : left <= 1048576) : Ctr prog 73 [.one (.dat (.sl 2 (l.map encBatch))), .one (.dat (.int .i64 left))] [] (.one (.dat (.int .i64 (szL left (sizBatchS l))))) [] := by
 have hw := aT h0 h1 hl
 unfold sizBatchS
 refine Ctr.bd aa func73 rfl ?_
 refine sv2 ?_
 constructor <;> intro h
 ·refine Fin.nt results73 [] ?_ ?_ ?_ <;> try trivial
  (refine rsl ?_; try exact .intro)
  exact ap (left := left) (a := l.length) (by rw [szL_raw]; exact h) (by omega)
 have a0 : decide (szL left l.length < 0) = false := by rw [szL_raw]; exact h
 have e0 : left - (l.length : Int) = szL left (l.length + ((l.take 0).map sizBatch).sum) := by
  have := (az h1 a0).2.1; simp; exact this.symm
 rw [e0]
 refine ab (fun n s => ∃ i : Nat, i <= l.length /\ n = l.length - i /\ decide (szL left (l.length + ((l.take i).map sizBatch).sum) < 0) = false /\ s = mkSt [(5, .one (.dat (.int .i64 i))), (1, .one (.dat (.int .i64 (szL left (l.length + ((l.take i).map sizBatch).sum))))), (0, .one (.dat (.sl 2 (l.map encBatch))))] []) l.length _
  (Ent.wk []) ⟨0, by omega, by omega, by simpa using a0, rfl⟩ ?_
 rintro n s ⟨i, hi, rfl, ht, rfl⟩ K hK
 rcases Nat.lt_or_ge i l.length with hlt | hge
 ·have hdi : decide ((i : Int) < l.length) = true := by simpa using hlt
  have hwi := ah hlt hl
  have hs := a9 sizBatch hlt
  have hs2 := bt sizBatch l (i + 1)
  obtain ⟨_, _, g, u⟩ := az h1 ht
  simp (maxSteps := 2000000) only [go_sem, seval, hdi, hwi, getD_map hlt, encBatch]
  refine ⟨⟨by omega, by omega⟩, hlt, ?_⟩
  refine ae e166 (c166 l[i] (hk _ (List.getElem_mem hlt)) _ g u) rfl ?_
  refine sv4 ?_
  rw [Nat.add_assoc, <- hs]
  constructor <;> intro h
  ·apply hK
   refine evl ?_
   refine Fin.nt results73 [] ?_ ?_ ?_ <;> try trivial
   (refine rsl ?_; try exact .intro)
   exact ap h (by omega)
  ·apply hK
   exact ⟨l.length - (i + 1), _, by omega, Ent.wk [], i + 1, by omega, rfl, h, rfl⟩
 ·have hge' : i = l.length := by omega
  subst hge'
  have hdi : decide ((l.length : Int) < l.length) = false := by simp
  refine sv3 ?_
  apply hK
  refine evl ?_
  refine Fin.nt results73 [] ?_ ?_ ?_ <;> try trivial
  all_goals try ((refine rsl ?_; try exact .intro))
  all_goals simp
theorem c80 (l : List Batch) (h : sizBatchS l <= 1048576) : Ctr prog 80 [.one (.dat (.sl 2 (l.map encBatch)))] [] (.one (.own 0)) [.vec 2 true (l.map encBatch)] := by
 have hl : l.length <= 1048576 := by unfold sizBatchS at h; omega
 refine Ctr.bd aa func80 rfl ?_
 refine evl ?_
 refine ⟨by omega, ?_⟩
 refine ab (fun n s => ∃ i : Nat, i <= l.length /\ n = l.length - i /\ s = mkSt [(4, .one (.dat (.int .i64 i))), (3, .one (.own 0)), (0, .one (.dat (.sl 2 (l.map encBatch))))]
   [.vec 2 true ((l.take i).map encBatch ++ List.replicate (l.length - i) [.bool false, .sl 3 []])]) l.length _
  (Ent.wk [0]) ⟨0, by omega, by omega, rfl⟩ ?_
 rintro n s ⟨i, hi, rfl, rfl⟩ K hK
 rcases Nat.lt_or_ge i l.length with hlt | hge
 ·have hdi : decide ((i : Int) < l.length) = true := by simpa using hlt
  simp (maxSteps := 2000000) only [go_sem, seval, hdi, getD_map hlt, encBatch, D.flat, ah hlt (le20 hl)]
  first | refine ⟨⟨by omega, by omega⟩, hlt, ?_⟩ | refine ⟨by omega, hlt, ?_⟩
  refine ae e171 (c171 l[i] (by have := au sizBatch hlt; unfold sizBatchS at h; omega)) rfl ?_
  simp (maxSteps := 2000000) only [go_sem, seval, encBatch, D.flat, ah hlt (le20 hl)]
  repeat' ((with_reducible show _ /\ _); apply And.intro)
  all_goals first
   | (apply hK
      refine ⟨l.length - (i + 1), _, by omega, Ent.weak (ids := [0]) (by simp) rfl (by simp) ?_ ?_ ?_, i + 1, by omega, rfl, rfl⟩
      ·simp only [objsLe, St.obj, find, AObj.renF, if_true, Option.getD_some, List.getD_cons_zero, and_true]
       rw [<- aS encBatch l _ hlt]
       exact ⟨by simp, Or.inr rfl⟩
      ·simp [objsLe, envLe, find, St.obj, AObj.renF, AV.renF, AV.renF1, Leaf.renF, LowAll, AV.Low, AV.Low1, Leaf.Low, AObj.Low, Ptr.renF, Ptr.Low]
      ·simp [objsLe, envLe, find, St.obj, AObj.renF, AV.renF, AV.renF1, Leaf.renF, LowAll, AV.Low, AV.Low1, Leaf.Low, AObj.Low, Ptr.renF, Ptr.Low])
   | omega
   | decide
   | (simp; done)
   | (simp; omega)
   | trivial
 ·have hge' : i = l.length := by omega
  subst hge'
  have hdi : decide ((l.length : Int) < l.length) = false := by simp
  refine sv3 ?_
  apply hK
  refine evl ?_
  refine Fin.nt results80 [0] ?_ ?_ ?_ <;> try trivial
  all_goals simp [objsLe, St.obj, find, AObj.renF]
theorem c98 (l l' : List Batch) (h0 : sizBatchS l <= 1048576) (h0' : sizBatchS l' <= 1048576) : Ctr prog 98 [.one (.dat (.sl 2 (l.map encBatch))), .one (.dat (.sl 2 (l'.map encBatch)))] [] (.one (.dat (.bool (decide (l = l'))))) [] := by
 have hl : l.length <= maxLen := (hH (by omega)).1
 have hl' : l'.length <= maxLen := (hH (by omega)).1
 refine Ctr.bd aa func98 rfl ?_
 refine evl ?_
 constructor <;> intro h
 ·have hne : l.length ≠ l'.length := by simp at h; omega
  refine Fin.nt results98 [] ?_ ?_ ?_ <;> try trivial
  (refine rsl ?_; try exact .intro)
  symm; rw [decide_eq_false_iff_not]
  intro e; exact hne (by rw [e])
 have hlen : l.length = l'.length := by simp at h; omega
 refine ab (fun n s => ∃ i : Nat, i <= l.length /\ n = l.length - i /\ l.take i = l'.take i /\ s = mkSt [(5, .one (.dat (.int .i64 i))), (1, .one (.dat (.sl 2 (l'.map encBatch)))), (0, .one (.dat (.sl 2 (l.map encBatch))))] []) l.length _
  (Ent.wk []) ⟨0, by omega, by omega, rfl, rfl⟩ ?_
 rintro n s ⟨i, hi, rfl, ht, rfl⟩ K hK
 rcases Nat.lt_or_ge i l.length with hlt | hge
 ·have hdi : decide ((i : Int) < l.length) = true := by simpa using hlt
  have hlt' : i < l'.length := by omega
  simp (maxSteps := 2000000) only [go_sem, seval, hdi, ah hlt hl, getD_map hlt, getD_map hlt', encBatch]
  refine ⟨⟨by omega, by omega⟩, hlt, ⟨by omega, by omega⟩, hlt', ?_⟩
  first
   | refine aj e184 (fun _ => ⟨trivial, c184 l[i] l'[i] (by have := au sizBatch hlt; unfold sizBatchS at h0; omega) (by have := au sizBatch hlt'; unfold sizBatchS at h0'; omega)⟩) rfl rfl ?_
   | refine Or.inl (aj e184 (fun _ => ⟨trivial, c184 l[i] l'[i] (by have := au sizBatch hlt; unfold sizBatchS at h0; omega) (by have := au sizBatch hlt'; unfold sizBatchS at h0'; omega)⟩) rfl rfl ?_)
  refine sv0 ?_
  constructor <;> intro h
  ·apply hK
   refine evl ?_
   refine Fin.nt results98 [] ?_ ?_ ?_ <;> try trivial
   (refine rsl ?_; try exact .intro)
   symm; rw [decide_eq_false_iff_not]
   rintro rfl; simp at h
  ·apply hK
   have he : l[i] = l'[i] := by simpa using h
   exact ⟨l.length - (i + 1), _, by omega, Ent.wk [], i + 1, by omega, rfl, by rw [List.take_succ_eq_append_getElem hlt, List.take_succ_eq_append_getElem hlt', ht, he], rfl⟩
 ·have hge' : i = l.length := by omega
  subst hge'
  have hdi : decide ((l.length : Int) < l.length) = false := by simp
  refine sv3 ?_
  apply hK
  refine evl ?_
  refine Fin.nt results98 [] ?_ ?_ ?_ <;> try trivial
  (refine rsl ?_; try exact .intro)
  symm; rw [decide_eq_true_iff]
  rw [List.take_of_length_le (Nat.le_refl _), List.take_of_length_le (by omega)] at ht
  exact ht
structure TQueue where
 List : List Batch
 deriving DecidableEq
def encTQueue (x : TQueue) : List D := [.sl 2 (x.List.map encBatch)]
def TQueue.wf (x : TQueue) : Prop := (∀ y ∈ x.List, y.wf) /\ True
theorem TQueue.eq_iff (x y : TQueue) : x = y ↔ x.List = y.List := by cases x; cases y; simp
def TQueue.lok (x : TQueue) : Prop := x.List.length <= maxLen /\ (∀ y ∈ x.List, y.lok) /\ True
def sizTQueue (x : TQueue) : Nat := sizBatchS x.List
def sizTQueueS (l : List TQueue) : Nat := l.length + (l.map sizTQueue).sum
theorem md (n : Nat) (ds : List D) (h : WT prog n 79 ds) : ∃ x : TQueue, ds = encTQueue x /\ x.wf /\ x.lok := by
 cases n with
 | zero => exact h.elim
 | succ n =>
  unfold WT at h
  rw [underlying79] at h
  simp only [List.toList_toArray, List.map_cons, List.map_nil, WTs] at h
  obtain ⟨_, _, rfl, h0, rfl⟩ := h
  obtain ⟨x0, rfl, c0, w0⟩ := aU (enc := encBatch) (q := fun x => x.wf /\ x.lok) underlying77 oz jg h0
  exact ⟨⟨x0⟩, rfl, ⟨fun y hy => (w0 y hy).1, trivial⟩, ⟨c0, fun y hy => (w0 y hy).2, trivial⟩⟩
theorem TQueue.lok_of {x : TQueue} (h : sizTQueue x <= 16777216) : x.lok := by
 have hm : maxLen = 9223372036854775807 := rfl
 unfold sizTQueue at h
 unfold sizBatchS at h
 exact ⟨by omega, fun y hy => Batch.lok_of (by have := aX sizBatch hy; omega), trivial⟩
theorem gg {l : List TQueue} (h : sizTQueueS l <= 16777216) : l.length <= maxLen /\ ∀ y ∈ l, y.lok := by
 have hm : maxLen = 9223372036854775807 := rfl
 unfold sizTQueueS at h
 exact ⟨by omega, fun y hy => TQueue.lok_of (by have := aX sizTQueue hy; omega)⟩
theorem c24 (x : TQueue) (hk : x.lok) (left : Int) (h0 : 0 <= left) (h1 : left <= 1048576) : Ctr prog 24 [.agg ((encTQueue x).map .dat), .one (.dat (.int .i64 left))] [] (.one (.dat (.int .i64 (szL left (sizTQueue x))))) [] := by
 simp only [encTQueue, List.map_cons, List.map_nil]
 unfold sizTQueue
 refine Ctr.bd aa func24 rfl ?_
 refine evl ?_
 obtain ⟨kList, qList, _⟩ := hk
 refine ae e73 (c73 x.List kList qList left h0 h1) rfl ?_
 refine evl ?_
 constructor <;> intro h
 ·refine Fin.nt results24 [] ?_ ?_ ?_ <;> try trivial
  (refine rsl ?_; try exact .intro)
  try simp only [List.length_map] at h
  exact ap (h) (by omega)
 try simp only [List.length_map] at h
 have a0 : decide (szL left (sizBatchS x.List) < 0) = false := h
 refine Fin.nt results24 [] ?_ ?_ ?_ <;> try trivial
 all_goals try ((refine rsl ?_; try exact .intro))
 all_goals try simp only [List.length_map]
theorem c28 (x : TQueue) (h : sizTQueue x <= 1048576) : Ctr prog 28 [.agg ((encTQueue x).map .dat)] [] (.agg [.own 0]) [.vec 2 true (x.List.map encBatch)] := by
 simp only [encTQueue, List.map_cons, List.map_nil]
 unfold sizTQueue at h
 refine Ctr.bd aa func28 rfl ?_
 refine evl ?_
 refine ae e80 (c80 x.List (by omega)) rfl ?_
 refine evl ?_
 first | ((refine Fin.nt results28 [3] ?_ ?_ ?_ <;> try trivial) <;> (first | rfl | exact entd); done) | ((refine Fin.nt results28 [2] ?_ ?_ ?_ <;> try trivial) <;> (first | rfl | exact entd); done) | ((refine Fin.nt results28 [1] ?_ ?_ ?_ <;> try trivial) <;> (first | rfl | exact entd); done) | ((refine Fin.nt results28 [0] ?_ ?_ ?_ <;> try trivial) <;> (first | rfl | exact entd); done) | ((refine Fin.nt results28 [4] ?_ ?_ ?_ <;> try trivial) <;> (first | rfl | exact entd); done) | ((refine Fin.nt results28 [5] ?_ ?_ ?_ <;> try trivial) <;> (first | rfl | exact entd); done)
theorem c36 (x y : TQueue) (hx : sizTQueue x <= 1048576) (hy : sizTQueue y <= 1048576) : Ctr prog 36 [.agg ((encTQueue x).map .dat), .agg ((encTQueue y).map .dat)] [] (.one (.dat (.bool (decide (x = y))))) [] := by
 simp only [encTQueue, List.map_cons, List.map_nil]
 unfold sizTQueue at hx hy
 have hm : maxLen = 9223372036854775807 := rfl
 refine Ctr.bd aa func36 rfl ?_
 refine evl ?_
 refine ck e98 (c98 x.List y.List (by omega) (by omega)) rfl ?_
 refine evl ?_
 constructor <;> intro h
 ·refine Fin.nt results36 [] ?_ ?_ ?_ <;> try trivial
  (refine rsl ?_; try exact .intro)
  simp_all [TQueue.eq_iff]
 have eList := h; clear h
 refine Fin.nt results36 [] ?_ ?_ ?_ <;> try trivial
 (refine rsl ?_; try exact .intro)
 simp_all [TQueue.eq_iff]
theorem c6 (l : List TQueue) (hl : l.length <= maxLen) (hk : ∀ y ∈ l, y.lok) (left : Int) (h0 : 0 <= left) (h1 : left <= 1048576) : Ctr prog 6 [.one (.dat (.sl 1 (l.map encTQueue))), .one (.dat (.int .i64 left))] [] (.one (.dat (.int .i64 (szL left (sizTQueueS l))))) [] := by
 have hw := aT h0 h1 hl
 unfold sizTQueueS
 refine Ctr.bd aa func6 rfl ?_
 refine sv2 ?_
 constructor <;> intro h
 ·refine Fin.nt results6 [] ?_ ?_ ?_ <;> try trivial
  (refine rsl ?_; try exact .intro)
  exact ap (left := left) (a := l.length) (by rw [szL_raw]; exact h) (by omega)
 have a0 : decide (szL left l.length < 0) = false := by rw [szL_raw]; exact h
 have e0 : left - (l.length : Int) = szL left (l.length + ((l.take 0).map sizTQueue).sum) := by
  have := (az h1 a0).2.1; simp; exact this.symm
 rw [e0]
 refine ab (fun n s => ∃ i : Nat, i <= l.length /\ n = l.length - i /\ decide (szL left (l.length + ((l.take i).map sizTQueue).sum) < 0) = false /\ s = mkSt [(5, .one (.dat (.int .i64 i))), (1, .one (.dat (.int .i64 (szL left (l.length + ((l.take i).map sizTQueue).sum))))), (0, .one (.dat (.sl 1 (l.map encTQueue))))] []) l.length _
  (Ent.wk []) ⟨0, by omega, by omega, by simpa using a0, rfl⟩ ?_
 rintro n s ⟨i, hi, rfl, ht, rfl⟩ K hK
 rcases Nat.lt_or_ge i l.length with hlt | hge
 ·have hdi : decide ((i : Int) < l.length) = true := by simpa using hlt
  have hwi := ah hlt hl
  have hs := a9 sizTQueue hlt
  have hs2 := bt sizTQueue l (i + 1)
  obtain ⟨_, _, g, u⟩ := az h1 ht
  simp (maxSteps := 2000000) only [go_sem, seval, hdi, hwi, getD_map hlt, encTQueue]
  refine ⟨⟨by omega, by omega⟩, hlt, ?_⟩
  refine ae e24 (c24 l[i] (hk _ (List.getElem_mem hlt)) _ g u) rfl ?_
  refine sv4 ?_
  rw [Nat.add_assoc, <- hs]
  constructor <;> intro h
  ·apply hK
   refine evl ?_
   refine Fin.nt results6 [] ?_ ?_ ?_ <;> try trivial
   (refine rsl ?_; try exact .intro)
   exact ap h (by omega)
  ·apply hK
   exact ⟨l.length - (i + 1), _, by omega, Ent.wk [], i + 1, by omega, rfl, h, rfl⟩
 ·have hge' : i = l.length := by omega
  subst hge'
  have hdi : decide ((l.length : Int) < l.length) = false := by simp
  refine sv3 ?_
  apply hK
  refine evl ?_
  refine Fin.nt results6 [] ?_ ?_ ?_ <;> try trivial
  all_goals try ((refine rsl ?_; try exact .intro))
  all_goals simp
theorem c8 (l : List TQueue) (h : sizTQueueS l <= 1048576) : Ctr prog 8 [.one (.dat (.sl 1 (l.map encTQueue)))] [] (.one (.own 0)) [.vec 1 true (l.map encTQueue)] := by
 have hl : l.length <= 1048576 := by unfold sizTQueueS at h; omega
 refine Ctr.bd aa func8 rfl ?_
 refine evl ?_
 refine ⟨by omega, ?_⟩
 refine ab (fun n s => ∃ i : Nat, i <= l.length /\ n = l.length - i /\ s = mkSt [(4, .one (.dat (.int .i64 i))), (3, .one (.own 0)), (0, .one (.dat (.sl 1 (l.map encTQueue))))]
   [.vec 1 true ((l.take i).map encTQueue ++ List.replicate (l.length - i) [.sl 2 []])]) l.length _
  (Ent.wk [0]) ⟨0, by omega, by omega, rfl⟩ ?_
 rintro n s ⟨i, hi, rfl, rfl⟩ K hK
 rcases Nat.lt_or_ge i l.length with hlt | hge
 ·have hdi : decide ((i : Int) < l.length) = true := by simpa using hlt
  simp (maxSteps := 2000000) only [go_sem, seval, hdi, getD_map hlt, encTQueue, D.flat, ah hlt (le20 hl)]
  first | refine ⟨⟨by omega, by omega⟩, hlt, ?_⟩ | refine ⟨by omega, hlt, ?_⟩
  refine ae e28 (c28 l[i] (by have := au sizTQueue hlt; unfold sizTQueueS at h; omega)) rfl ?_
  simp (maxSteps := 2000000) only [go_sem, seval, encTQueue, D.flat, ah hlt (le20 hl)]
  repeat' ((with_reducible show _ /\ _); apply And.intro)
  all_goals first
   | (apply hK
      refine ⟨l.length - (i + 1), _, by omega, Ent.weak (ids := [0]) (by simp) rfl (by simp) ?_ ?_ ?_, i + 1, by omega, rfl, rfl⟩
      ·simp only [objsLe, St.obj, find, AObj.renF, if_true, Option.getD_some, List.getD_cons_zero, and_true]
       rw [<- aS encTQueue l _ hlt]
       exact ⟨by simp, Or.inr rfl⟩
      ·simp [objsLe, envLe, find, St.obj, AObj.renF, AV.renF, AV.renF1, Leaf.renF, LowAll, AV.Low, AV.Low1, Leaf.Low, AObj.Low, Ptr.renF, Ptr.Low]
      ·simp [objsLe, envLe, find, St.obj, AObj.renF, AV.renF, AV.renF1, Leaf.renF, LowAll, AV.Low, AV.Low1, Leaf.Low, AObj.Low, Ptr.renF, Ptr.Low])
   | omega
   | decide
   | (simp; done)
   | (simp; omega)
   | trivial
 ·have hge' : i = l.length := by omega
  subst hge'
  have hdi : decide ((l.length : Int) < l.length) = false := by simp
  refine sv3 ?_
  apply hK
  refine evl ?_
  refine Fin.nt results8 [0] ?_ ?_ ?_ <;> try trivial
  all_goals simp [objsLe, St.obj, find, AObj.renF]
theorem c11 (l l' : List TQueue) (h0 : sizTQueueS l <= 1048576) (h0' : sizTQueueS l' <= 1048576) : Ctr prog 11 [.one (.dat (.sl 1 (l.map encTQueue))), .one (.dat (.sl 1 (l'.map encTQueue)))] [] (.one (.dat (.bool (decide (l = l'))))) [] := by
 have hl : l.length <= maxLen := (gg (by omega)).1
 have hl' : l'.length <= maxLen := (gg (by omega)).1
 refine Ctr.bd aa func11 rfl ?_
 refine evl ?_
 constructor <;> intro h
 ·have hne : l.length ≠ l'.length := by simp at h; omega
  refine Fin.nt results11 [] ?_ ?_ ?_ <;> try trivial
  (refine rsl ?_; try exact .intro)
  symm; rw [decide_eq_false_iff_not]
  intro e; exact hne (by rw [e])
 have hlen : l.length = l'.length := by simp at h; omega
 refine ab (fun n s => ∃ i : Nat, i <= l.length /\ n = l.length - i /\ l.take i = l'.take i /\ s = mkSt [(5, .one (.dat (.int .i64 i))), (1, .one (.dat (.sl 1 (l'.map encTQueue)))), (0, .one (.dat (.sl 1 (l.map encTQueue))))] []) l.length _
  (Ent.wk []) ⟨0, by omega, by omega, rfl, rfl⟩ ?_
 rintro n s ⟨i, hi, rfl, ht, rfl⟩ K hK
 rcases Nat.lt_or_ge i l.length with hlt | hge
 ·have hdi : decide ((i : Int) < l.length) = true := by simpa using hlt
  have hlt' : i < l'.length := by omega
  simp (maxSteps := 2000000) only [go_sem, seval, hdi, ah hlt hl, getD_map hlt, getD_map hlt', encTQueue]
  refine ⟨⟨by omega, by omega⟩, hlt, ⟨by omega, by omega⟩, hlt', ?_⟩
  first
   | refine aj e36 (fun _ => ⟨trivial, c36 l[i] l'[i] (by have := au sizTQueue hlt; unfold sizTQueueS at h0; omega) (by have := au sizTQueue hlt'; unfold sizTQueueS at h0'; omega)⟩) rfl rfl ?_
   | refine Or.inl (aj e36 (fun _ => ⟨trivial, c36 l[i] l'[i] (by have := au sizTQueue hlt; unfold sizTQueueS at h0; omega) (by have := au sizTQueue hlt'; unfold sizTQueueS at h0'; omega)⟩) rfl rfl ?_)
  refine sv0 ?_
  constructor <;> intro h
  ·apply hK
   refine evl ?_
   refine Fin.nt results11 [] ?_ ?_ ?_ <;> try trivial
   (refine rsl ?_; try exact .intro)
   symm; rw [decide_eq_false_iff_not]
   rintro rfl; simp at h
  ·apply hK
   have he : l[i] = l'[i] := by simpa using h
   exact ⟨l.length - (i + 1), _, by omega, Ent.wk [], i + 1, by omega, rfl, by rw [List.take_succ_eq_append_getElem hlt, List.take_succ_eq_append_getElem hlt', ht, he], rfl⟩
 ·have hge' : i = l.length := by omega
  subst hge'
  have hdi : decide ((l.length : Int) < l.length) = false := by simp
  refine sv3 ?_
  apply hK
  refine evl ?_
  refine Fin.nt results11 [] ?_ ?_ ?_ <;> try trivial
  (refine rsl ?_; try exact .intro)
  symm; rw [decide_eq_true_iff]
  rw [List.take_of_length_le (Nat.le_refl _), List.take_of_length_le (by omega)] at ht
  exact ht
def Res.lok (x : Res) : Prop := True
theorem me (n : Nat) (ds : List D) (h : WT prog n 324 ds) : ∃ x : Res, ds = encRes x /\ x.wf /\ x.lok := by
 cases n with
 | zero => exact h.elim
 | succ n =>
  unfold WT at h
  rw [underlying324] at h
  simp only [List.toList_toArray, List.map_cons, List.map_nil, WTs] at h
  obtain ⟨_, _, rfl, h0, ⟨_, _, rfl, h1, rfl⟩⟩ := h
  obtain ⟨x0, rfl⟩ := bO underlying4 h0
  obtain ⟨x1, rfl, w1⟩ := ao underlying3 h1
  exact ⟨⟨x0, x1⟩, rfl, ⟨w1, trivial⟩, trivial⟩
structure TJob where
 Busy : Bool
 Batch : Batch
 Serial : Int
 Pc : Int
 At : Int
 K : Int
 Bkt : Int
 Ver : Int
 H : Int
 Prev : Int
 Node : Node
 Found : Bool
 Code : Int
 Sub : Sub
 Reads : List Seen
 Writes : List Write
 Res : List Res
 New : List Int
 Held : List Int
 Olds : List Int
 deriving DecidableEq
def encTJob (x : TJob) : List D := [.bool x.Busy, .bool x.Batch.Collect, .sl 3 (x.Batch.Cmds.map encCmd), .int .i64 x.Serial, .int .i64 x.Pc, .int .i64 x.At, .int .i64 x.K, .int .i64 x.Bkt, .int .i64 x.Ver, .int .i64 x.H, .int .i64 x.Prev, .int .i64 x.Node.Key, .int .i64 x.Node.Val, .int .i64 x.Node.Next, .bool x.Found, .int .i64 x.Code, .int .i64 x.Sub.Kind, .int .i64 x.Sub.A, .int .i64 x.Sub.Pc, .int .i64 x.Sub.E, .int .i64 x.Sub.Row, .int .i64 x.Sub.B, .int .i64 x.Sub.H, .int .i64 x.Sub.Out, .int .i64 x.Sub.Code, .bool x.Sub.Done, .sl 2 (x.Reads.map encSeen), .sl 3 (x.Writes.map encWrite), .sl 2 (x.Res.map encRes), .sl 1 (x.New.map encI), .sl 1 (x.Held.map encI), .sl 1 (x.Olds.map encI)]
def TJob.wf (x : TJob) : Prop := x.Batch.wf /\ (Lit.int .i64 x.Serial).wf = true /\ (Lit.int .i64 x.Pc).wf = true /\ (Lit.int .i64 x.At).wf = true /\ (Lit.int .i64 x.K).wf = true /\ (Lit.int .i64 x.Bkt).wf = true /\ (Lit.int .i64 x.Ver).wf = true /\ (Lit.int .i64 x.H).wf = true /\ (Lit.int .i64 x.Prev).wf = true /\ x.Node.wf /\ (Lit.int .i64 x.Code).wf = true /\ x.Sub.wf /\ (∀ y ∈ x.Reads, y.wf) /\ (∀ y ∈ x.Writes, y.wf) /\ (∀ y ∈ x.Res, y.wf) /\ (∀ y ∈ x.New, (Lit.int .i64 y).wf = true) /\ (∀ y ∈ x.Held, (Lit.int .i64 y).wf = true) /\ (∀ y ∈ x.Olds, (Lit.int .i64 y).wf = true) /\ True
theorem TJob.eq_iff (x y : TJob) : x = y ↔ x.Busy = y.Busy /\ x.Batch = y.Batch /\ x.Serial = y.Serial /\ x.Pc = y.Pc /\ x.At = y.At /\ x.K = y.K /\ x.Bkt = y.Bkt /\ x.Ver = y.Ver /\ x.H = y.H /\ x.Prev = y.Prev /\ x.Node = y.Node /\ x.Found = y.Found /\ x.Code = y.Code /\ x.Sub = y.Sub /\ x.Reads = y.Reads /\ x.Writes = y.Writes /\ x.Res = y.Res /\ x.New = y.New /\ x.Held = y.Held /\ x.Olds = y.Olds := by cases x; cases y; simp
def TJob.lok (x : TJob) : Prop := x.Batch.lok /\ x.Reads.length <= maxLen /\ x.Writes.length <= maxLen /\ x.Res.length <= maxLen /\ x.New.length <= maxLen /\ x.Held.length <= maxLen /\ x.Olds.length <= maxLen /\ True
def sizTJob (x : TJob) : Nat := sizBatch x.Batch + x.Reads.length + x.Writes.length + x.Res.length + x.New.length + x.Held.length + x.Olds.length
def sizTJobS (l : List TJob) : Nat := l.length + (l.map sizTJob).sum
def zeroTJob : TJob := ⟨false, zeroBatch, 0, 0, 0, 0, 0, 0, 0, 0, zeroNode, false, 0, zeroSub, [], [], [], [], [], []⟩
theorem nU (n : Nat) (ds : List D) (h : WT prog n 178 ds) : ∃ x : TJob, ds = encTJob x /\ x.wf /\ x.lok := by
 cases n with
 | zero => exact h.elim
 | succ n =>
  unfold WT at h
  rw [underlying178] at h
  simp only [List.toList_toArray, List.map_cons, List.map_nil, WTs] at h
  obtain ⟨_, _, rfl, h0, ⟨_, _, rfl, h1, ⟨_, _, rfl, h2, ⟨_, _, rfl, h3, ⟨_, _, rfl, h4, ⟨_, _, rfl, h5, ⟨_, _, rfl, h6, ⟨_, _, rfl, h7, ⟨_, _, rfl, h8, ⟨_, _, rfl, h9, ⟨_, _, rfl, h10, ⟨_, _, rfl, h11, ⟨_, _, rfl, h12, ⟨_, _, rfl, h13, ⟨_, _, rfl, h14, ⟨_, _, rfl, h15, ⟨_, _, rfl, h16, ⟨_, _, rfl, h17, ⟨_, _, rfl, h18, ⟨_, _, rfl, h19, rfl⟩⟩⟩⟩⟩⟩⟩⟩⟩⟩⟩⟩⟩⟩⟩⟩⟩⟩⟩⟩ := h
  obtain ⟨x0, rfl⟩ := bO underlying4 h0
  obtain ⟨x1, rfl, w1, k1⟩ := jg _ _ h1
  obtain ⟨x2, rfl, w2⟩ := ao underlying3 h2
  obtain ⟨x3, rfl, w3⟩ := ao underlying3 h3
  obtain ⟨x4, rfl, w4⟩ := ao underlying3 h4
  obtain ⟨x5, rfl, w5⟩ := ao underlying3 h5
  obtain ⟨x6, rfl, w6⟩ := ao underlying3 h6
  obtain ⟨x7, rfl, w7⟩ := ao underlying3 h7
  obtain ⟨x8, rfl, w8⟩ := ao underlying3 h8
  obtain ⟨x9, rfl, w9⟩ := ao underlying3 h9
  obtain ⟨x10, rfl, w10, k10⟩ := nS _ _ h10
  obtain ⟨x11, rfl⟩ := bO underlying4 h11
  obtain ⟨x12, rfl, w12⟩ := ao underlying3 h12
  obtain ⟨x13, rfl, w13, k13⟩ := oN _ _ h13
  obtain ⟨x14, rfl, c14, w14⟩ := aU (enc := encSeen) (q := fun x => x.wf /\ x.lok) underlying174 oF nT h14
  obtain ⟨x15, rfl, c15, w15⟩ := aU (enc := encWrite) (q := fun x => x.wf /\ x.lok) underlying175 oG m9 h15
  obtain ⟨x16, rfl, c16, w16⟩ := aU (enc := encRes) (q := fun x => x.wf /\ x.lok) underlying176 lI me h16
  obtain ⟨x17, rfl, c17, w17⟩ := aU (enc := encI) (q := fun x => (Lit.int .i64 x).wf = true) underlying24 tc_3 (fun _ _ h => ao underlying3 h) h17
  obtain ⟨x18, rfl, c18, w18⟩ := aU (enc := encI) (q := fun x => (Lit.int .i64 x).wf = true) underlying24 tc_3 (fun _ _ h => ao underlying3 h) h18
  obtain ⟨x19, rfl, c19, w19⟩ := aU (enc := encI) (q := fun x => (Lit.int .i64 x).wf = true) underlying24 tc_3 (fun _ _ h => ao underlying3 h) h19
  exact ⟨⟨x0, x1, x2, x3, x4, x5, x6, x7, x8, x9, x10, x11, x12, x13, x14, x15, x16, x17, x18, x19⟩, rfl, ⟨w1, w2, w3, w4, w5, w6, w7, w8, w9, w10, w12, w13, fun y hy => (w14 y hy).1, fun y hy => (w15 y hy).1, fun y hy => (w16 y hy).1, w17, w18, w19, trivial⟩, ⟨k1, c14, c15, c16, c17, c18, c19, trivial⟩⟩
theorem TJob.lok_of {x : TJob} (h : sizTJob x <= 16777216) : x.lok := by
 have hm : maxLen = 9223372036854775807 := rfl
 unfold sizTJob at h
 exact ⟨Batch.lok_of (by omega), by omega, by omega, by omega, by omega, by omega, by omega, trivial⟩
theorem jh {l : List TJob} (h : sizTJobS l <= 16777216) : l.length <= maxLen /\ ∀ y ∈ l, y.lok := by
 have hm : maxLen = 9223372036854775807 := rfl
 unfold sizTJobS at h
 exact ⟨by omega, fun y hy => TJob.lok_of (by have := aX sizTJob hy; omega)⟩
theorem c120 (x : TJob) (hk : x.lok) (left : Int) (h0 : 0 <= left) (h1 : left <= 1048576) : Ctr prog 120 [.agg ((encTJob x).map .dat), .one (.dat (.int .i64 left))] [] (.one (.dat (.int .i64 (szL left (sizTJob x))))) [] := by
 simp only [encTJob, List.map_cons, List.map_nil]
 unfold sizTJob
 refine Ctr.bd aa func120 rfl ?_
 refine evl ?_
 obtain ⟨kBatch, kReads, kWrites, kRes, kNew, kHeld, kOlds, _⟩ := hk
 refine ae e166 (c166 x.Batch kBatch left h0 h1) rfl ?_
 refine evl ?_
 constructor <;> intro h
 ·refine Fin.nt results120 [] ?_ ?_ ?_ <;> try trivial
  (refine rsl ?_; try exact .intro)
  try simp only [List.length_map] at h
  exact ap (h) (by omega)
 try simp only [List.length_map] at h
 have a0 : decide (szL left (sizBatch x.Batch) < 0) = false := h
 obtain ⟨_, _, g0, u0⟩ := az h1 a0
 try simp only [List.length_map]
 refine ae e203 (c203 (x.Reads.map encSeen) (szL left (sizBatch x.Batch)) g0 u0 (by simpa using kReads)) rfl ?_
 refine evl ?_
 constructor <;> intro h
 ·refine Fin.nt results120 [] ?_ ?_ ?_ <;> try trivial
  (refine rsl ?_; try exact .intro)
  try simp only [List.length_map] at h
  exact ap (am h0 a0 ▸ h) (by omega)
 try simp only [List.length_map] at h
 have a1 : decide (szL left (sizBatch x.Batch + x.Reads.length) < 0) = false := am h0 a0 ▸ h
 obtain ⟨_, _, g1, u1⟩ := az h1 a1
 try simp only [List.length_map]
 rw [am h0 a0]
 refine ae e204 (c204 (x.Writes.map encWrite) (szL left (sizBatch x.Batch + x.Reads.length)) g1 u1 (by simpa using kWrites)) rfl ?_
 refine evl ?_
 constructor <;> intro h
 ·refine Fin.nt results120 [] ?_ ?_ ?_ <;> try trivial
  (refine rsl ?_; try exact .intro)
  try simp only [List.length_map] at h
  exact ap (am h0 a1 ▸ h) (by omega)
 try simp only [List.length_map] at h
 have a2 : decide (szL left (sizBatch x.Batch + x.Reads.length + x.Writes.length) < 0) = false := am h0 a1 ▸ h
 obtain ⟨_, _, g2, u2⟩ := az h1 a2
 try simp only [List.length_map]
 rw [am h0 a1]
 refine ae e205 (c205 (x.Res.map encRes) (szL left (sizBatch x.Batch + x.Reads.length + x.Writes.length)) g2 u2 (by simpa using kRes)) rfl ?_
 refine evl ?_
 constructor <;> intro h
 ·refine Fin.nt results120 [] ?_ ?_ ?_ <;> try trivial
  (refine rsl ?_; try exact .intro)
  try simp only [List.length_map] at h
  exact ap (am h0 a2 ▸ h) (by omega)
 try simp only [List.length_map] at h
 have a3 : decide (szL left (sizBatch x.Batch + x.Reads.length + x.Writes.length + x.Res.length) < 0) = false := am h0 a2 ▸ h
 obtain ⟨_, _, g3, u3⟩ := az h1 a3
 try simp only [List.length_map]
 rw [am h0 a2]
 refine ae e119 (c119 (x.New.map encI) (szL left (sizBatch x.Batch + x.Reads.length + x.Writes.length + x.Res.length)) g3 u3 (by simpa using kNew)) rfl ?_
 refine evl ?_
 constructor <;> intro h
 ·refine Fin.nt results120 [] ?_ ?_ ?_ <;> try trivial
  (refine rsl ?_; try exact .intro)
  try simp only [List.length_map] at h
  exact ap (am h0 a3 ▸ h) (by omega)
 try simp only [List.length_map] at h
 have a4 : decide (szL left (sizBatch x.Batch + x.Reads.length + x.Writes.length + x.Res.length + x.New.length) < 0) = false := am h0 a3 ▸ h
 obtain ⟨_, _, g4, u4⟩ := az h1 a4
 try simp only [List.length_map]
 rw [am h0 a3]
 refine ae e119 (c119 (x.Held.map encI) (szL left (sizBatch x.Batch + x.Reads.length + x.Writes.length + x.Res.length + x.New.length)) g4 u4 (by simpa using kHeld)) rfl ?_
 refine evl ?_
 constructor <;> intro h
 ·refine Fin.nt results120 [] ?_ ?_ ?_ <;> try trivial
  (refine rsl ?_; try exact .intro)
  try simp only [List.length_map] at h
  exact ap (am h0 a4 ▸ h) (by omega)
 try simp only [List.length_map] at h
 have a5 : decide (szL left (sizBatch x.Batch + x.Reads.length + x.Writes.length + x.Res.length + x.New.length + x.Held.length) < 0) = false := am h0 a4 ▸ h
 obtain ⟨_, _, g5, u5⟩ := az h1 a5
 try simp only [List.length_map]
 rw [am h0 a4]
 refine ae e119 (c119 (x.Olds.map encI) (szL left (sizBatch x.Batch + x.Reads.length + x.Writes.length + x.Res.length + x.New.length + x.Held.length)) g5 u5 (by simpa using kOlds)) rfl ?_
 refine evl ?_
 constructor <;> intro h
 ·refine Fin.nt results120 [] ?_ ?_ ?_ <;> try trivial
  (refine rsl ?_; try exact .intro)
  try simp only [List.length_map] at h
  exact ap (am h0 a5 ▸ h) (by omega)
 try simp only [List.length_map] at h
 have a6 : decide (szL left (sizBatch x.Batch + x.Reads.length + x.Writes.length + x.Res.length + x.New.length + x.Held.length + x.Olds.length) < 0) = false := am h0 a5 ▸ h
 refine Fin.nt results120 [] ?_ ?_ ?_ <;> try trivial
 all_goals try ((refine rsl ?_; try exact .intro))
 all_goals try simp only [List.length_map]
 all_goals try exact am h0 a5
theorem c135 (x : TJob) (h : sizTJob x <= 1048576) : Ctr prog 135 [.agg ((encTJob x).map .dat)] [] (.agg [.dat (.bool x.Busy), .dat (.bool x.Batch.Collect), .own 0, .dat (.int .i64 x.Serial), .dat (.int .i64 x.Pc), .dat (.int .i64 x.At), .dat (.int .i64 x.K), .dat (.int .i64 x.Bkt), .dat (.int .i64 x.Ver), .dat (.int .i64 x.H), .dat (.int .i64 x.Prev), .dat (.int .i64 x.Node.Key), .dat (.int .i64 x.Node.Val), .dat (.int .i64 x.Node.Next), .dat (.bool x.Found), .dat (.int .i64 x.Code), .dat (.int .i64 x.Sub.Kind), .dat (.int .i64 x.Sub.A), .dat (.int .i64 x.Sub.Pc), .dat (.int .i64 x.Sub.E), .dat (.int .i64 x.Sub.Row), .dat (.int .i64 x.Sub.B), .dat (.int .i64 x.Sub.H), .dat (.int .i64 x.Sub.Out), .dat (.int .i64 x.Sub.Code), .dat (.bool x.Sub.Done), .own 1, .own 2, .own 3, .own 4, .own 5, .own 6]) [.vec 3 true (x.Batch.Cmds.map encCmd), .vec 2 true (x.Reads.map encSeen), .vec 3 true (x.Writes.map encWrite), .vec 2 true (x.Res.map encRes), .vec 1 true (x.New.map encI), .vec 1 true (x.Held.map encI), .vec 1 true (x.Olds.map encI)] := by
 simp only [encTJob, List.map_cons, List.map_nil]
 unfold sizTJob at h
 refine Ctr.bd aa func135 rfl ?_
 refine evl ?_
 refine ae e171 (c171 x.Batch (by omega)) rfl ?_
 refine evl ?_
 refine ae e224 (c224 x.Node) rfl ?_
 simp (maxSteps := 2000000) only [go_sem, seval, encNode]
 refine ae e225 (c225 x.Sub) rfl ?_
 simp (maxSteps := 2000000) only [go_sem, seval, encSub]
 refine ae e226 (c226 x.Reads (by omega)) rfl ?_
 refine evl ?_
 refine ae e227 (c227 x.Writes (by omega)) rfl ?_
 refine evl ?_
 refine ae e228 (c228 x.Res (by omega)) rfl ?_
 refine evl ?_
 refine ae e133 (c133 x.New (by omega)) rfl ?_
 refine evl ?_
 refine ae e133 (c133 x.Held (by omega)) rfl ?_
 refine evl ?_
 refine ae e133 (c133 x.Olds (by omega)) rfl ?_
 refine evl ?_
 first | ((refine Fin.nt results135 [3, 4, 5, 6, 7, 8, 9] ?_ ?_ ?_ <;> try trivial) <;> (first | rfl | exact entd); done) | ((refine Fin.nt results135 [2, 3, 4, 5, 6, 7, 8] ?_ ?_ ?_ <;> try trivial) <;> (first | rfl | exact entd); done) | ((refine Fin.nt results135 [1, 2, 3, 4, 5, 6, 7] ?_ ?_ ?_ <;> try trivial) <;> (first | rfl | exact entd); done) | ((refine Fin.nt results135 [0, 1, 2, 3, 4, 5, 6] ?_ ?_ ?_ <;> try trivial) <;> (first | rfl | exact entd); done) | ((refine Fin.nt results135 [4, 5, 6, 7, 8, 9, 10] ?_ ?_ ?_ <;> try trivial) <;> (first | rfl | exact entd); done) | ((refine Fin.nt results135 [5, 6, 7, 8, 9, 10, 11] ?_ ?_ ?_ <;> try trivial) <;> (first | rfl | exact entd); done)
theorem c96 (x y : TJob) (hx : sizTJob x <= 1048576) (hy : sizTJob y <= 1048576) : Ctr prog 96 [.agg ((encTJob x).map .dat), .agg ((encTJob y).map .dat)] [] (.one (.dat (.bool (decide (x = y))))) [] := by
 simp only [encTJob, List.map_cons, List.map_nil]
 unfold sizTJob at hx hy
 have hm : maxLen = 9223372036854775807 := rfl
 refine Ctr.bd aa func96 rfl ?_
 refine evl ?_
 constructor <;> intro h
 ·refine Fin.nt results96 [] ?_ ?_ ?_ <;> try trivial
  (refine rsl ?_; try exact .intro)
  simp_all [TJob.eq_iff]
 have eBusy := h; clear h
 refine ck e184 (c184 x.Batch y.Batch (by omega) (by omega)) rfl ?_
 refine evl ?_
 constructor <;> intro h
 ·refine Fin.nt results96 [] ?_ ?_ ?_ <;> try trivial
  (refine rsl ?_; try exact .intro)
  simp_all [TJob.eq_iff]
 have eBatch := h; clear h
 constructor <;> intro h
 ·refine Fin.nt results96 [] ?_ ?_ ?_ <;> try trivial
  (refine rsl ?_; try exact .intro)
  simp_all [TJob.eq_iff]
 have eSerial := h; clear h
 constructor <;> intro h
 ·refine Fin.nt results96 [] ?_ ?_ ?_ <;> try trivial
  (refine rsl ?_; try exact .intro)
  simp_all [TJob.eq_iff]
 have ePc := h; clear h
 constructor <;> intro h
 ·refine Fin.nt results96 [] ?_ ?_ ?_ <;> try trivial
  (refine rsl ?_; try exact .intro)
  simp_all [TJob.eq_iff]
 have eAt := h; clear h
 constructor <;> intro h
 ·refine Fin.nt results96 [] ?_ ?_ ?_ <;> try trivial
  (refine rsl ?_; try exact .intro)
  simp_all [TJob.eq_iff]
 have eK := h; clear h
 constructor <;> intro h
 ·refine Fin.nt results96 [] ?_ ?_ ?_ <;> try trivial
  (refine rsl ?_; try exact .intro)
  simp_all [TJob.eq_iff]
 have eBkt := h; clear h
 constructor <;> intro h
 ·refine Fin.nt results96 [] ?_ ?_ ?_ <;> try trivial
  (refine rsl ?_; try exact .intro)
  simp_all [TJob.eq_iff]
 have eVer := h; clear h
 constructor <;> intro h
 ·refine Fin.nt results96 [] ?_ ?_ ?_ <;> try trivial
  (refine rsl ?_; try exact .intro)
  simp_all [TJob.eq_iff]
 have eH := h; clear h
 constructor <;> intro h
 ·refine Fin.nt results96 [] ?_ ?_ ?_ <;> try trivial
  (refine rsl ?_; try exact .intro)
  simp_all [TJob.eq_iff]
 have ePrev := h; clear h
 refine ck e185 (c185 x.Node y.Node) rfl ?_
 refine evl ?_
 constructor <;> intro h
 ·refine Fin.nt results96 [] ?_ ?_ ?_ <;> try trivial
  (refine rsl ?_; try exact .intro)
  simp_all [TJob.eq_iff]
 have eNode := h; clear h
 constructor <;> intro h
 ·refine Fin.nt results96 [] ?_ ?_ ?_ <;> try trivial
  (refine rsl ?_; try exact .intro)
  simp_all [TJob.eq_iff]
 have eFound := h; clear h
 constructor <;> intro h
 ·refine Fin.nt results96 [] ?_ ?_ ?_ <;> try trivial
  (refine rsl ?_; try exact .intro)
  simp_all [TJob.eq_iff]
 have eCode := h; clear h
 refine ck e186 (c186 x.Sub y.Sub) rfl ?_
 refine evl ?_
 constructor <;> intro h
 ·refine Fin.nt results96 [] ?_ ?_ ?_ <;> try trivial
  (refine rsl ?_; try exact .intro)
  simp_all [TJob.eq_iff]
 have eSub := h; clear h
 refine ck e187 (c187 x.Reads y.Reads (by omega) (by omega)) rfl ?_
 refine evl ?_
 constructor <;> intro h
 ·refine Fin.nt results96 [] ?_ ?_ ?_ <;> try trivial
  (refine rsl ?_; try exact .intro)
  simp_all [TJob.eq_iff]
 have eReads := h; clear h
 refine ck e188 (c188 x.Writes y.Writes (by omega) (by omega)) rfl ?_
 refine evl ?_
 constructor <;> intro h
 ·refine Fin.nt results96 [] ?_ ?_ ?_ <;> try trivial
  (refine rsl ?_; try exact .intro)
  simp_all [TJob.eq_iff]
 have eWrites := h; clear h
 refine ck e189 (c189 x.Res y.Res (by omega) (by omega)) rfl ?_
 refine evl ?_
 constructor <;> intro h
 ·refine Fin.nt results96 [] ?_ ?_ ?_ <;> try trivial
  (refine rsl ?_; try exact .intro)
  simp_all [TJob.eq_iff]
 have eRes := h; clear h
 refine ck e94 (c94 x.New y.New (by omega) (by omega)) rfl ?_
 refine evl ?_
 constructor <;> intro h
 ·refine Fin.nt results96 [] ?_ ?_ ?_ <;> try trivial
  (refine rsl ?_; try exact .intro)
  simp_all [TJob.eq_iff]
 have eNew := h; clear h
 refine ck e94 (c94 x.Held y.Held (by omega) (by omega)) rfl ?_
 refine evl ?_
 constructor <;> intro h
 ·refine Fin.nt results96 [] ?_ ?_ ?_ <;> try trivial
  (refine rsl ?_; try exact .intro)
  simp_all [TJob.eq_iff]
 have eHeld := h; clear h
 refine ck e94 (c94 x.Olds y.Olds (by omega) (by omega)) rfl ?_
 refine evl ?_
 constructor <;> intro h
 ·refine Fin.nt results96 [] ?_ ?_ ?_ <;> try trivial
  (refine rsl ?_; try exact .intro)
  simp_all [TJob.eq_iff]
 have eOlds := h; clear h
 refine Fin.nt results96 [] ?_ ?_ ?_ <;> try trivial
 (refine rsl ?_; try exact .intro)
 simp_all [TJob.eq_iff]
theorem c49 (l : List TJob) (hl : l.length <= maxLen) (hk : ∀ y ∈ l, y.lok) (left : Int) (h0 : 0 <= left) (h1 : left <= 1048576) : Ctr prog 49 [.one (.dat (.sl 32 (l.map encTJob))), .one (.dat (.int .i64 left))] [] (.one (.dat (.int .i64 (szL left (sizTJobS l))))) [] := by
 have hw := aT h0 h1 hl
 unfold sizTJobS
 refine Ctr.bd aa func49 rfl ?_
 refine sv2 ?_
 constructor <;> intro h
 ·refine Fin.nt results49 [] ?_ ?_ ?_ <;> try trivial
  (refine rsl ?_; try exact .intro)
  exact ap (left := left) (a := l.length) (by rw [szL_raw]; exact h) (by omega)
 have a0 : decide (szL left l.length < 0) = false := by rw [szL_raw]; exact h
 have e0 : left - (l.length : Int) = szL left (l.length + ((l.take 0).map sizTJob).sum) := by
  have := (az h1 a0).2.1; simp; exact this.symm
 rw [e0]
 refine ab (fun n s => ∃ i : Nat, i <= l.length /\ n = l.length - i /\ decide (szL left (l.length + ((l.take i).map sizTJob).sum) < 0) = false /\ s = mkSt [(5, .one (.dat (.int .i64 i))), (1, .one (.dat (.int .i64 (szL left (l.length + ((l.take i).map sizTJob).sum))))), (0, .one (.dat (.sl 32 (l.map encTJob))))] []) l.length _
  (Ent.wk []) ⟨0, by omega, by omega, by simpa using a0, rfl⟩ ?_
 rintro n s ⟨i, hi, rfl, ht, rfl⟩ K hK
 rcases Nat.lt_or_ge i l.length with hlt | hge
 ·have hdi : decide ((i : Int) < l.length) = true := by simpa using hlt
  have hwi := ah hlt hl
  have hs := a9 sizTJob hlt
  have hs2 := bt sizTJob l (i + 1)
  obtain ⟨_, _, g, u⟩ := az h1 ht
  simp (maxSteps := 2000000) only [go_sem, seval, hdi, hwi, getD_map hlt, encTJob]
  refine ⟨⟨by omega, by omega⟩, hlt, ?_⟩
  refine ae e120 (c120 l[i] (hk _ (List.getElem_mem hlt)) _ g u) rfl ?_
  refine sv4 ?_
  rw [Nat.add_assoc, <- hs]
  constructor <;> intro h
  ·apply hK
   refine evl ?_
   refine Fin.nt results49 [] ?_ ?_ ?_ <;> try trivial
   (refine rsl ?_; try exact .intro)
   exact ap h (by omega)
  ·apply hK
   exact ⟨l.length - (i + 1), _, by omega, Ent.wk [], i + 1, by omega, rfl, h, rfl⟩
 ·have hge' : i = l.length := by omega
  subst hge'
  have hdi : decide ((l.length : Int) < l.length) = false := by simp
  refine sv3 ?_
  apply hK
  refine evl ?_
  refine Fin.nt results49 [] ?_ ?_ ?_ <;> try trivial
  all_goals try ((refine rsl ?_; try exact .intro))
  all_goals simp
theorem c58 (l : List TJob) (h : sizTJobS l <= 1048576) : Ctr prog 58 [.one (.dat (.sl 32 (l.map encTJob)))] [] (.one (.own 0)) [.vec 32 true (l.map encTJob)] := by
 have hl : l.length <= 1048576 := by unfold sizTJobS at h; omega
 refine Ctr.bd aa func58 rfl ?_
 refine evl ?_
 refine ⟨by omega, ?_⟩
 refine ab (fun n s => ∃ i : Nat, i <= l.length /\ n = l.length - i /\ s = mkSt [(4, .one (.dat (.int .i64 i))), (3, .one (.own 0)), (0, .one (.dat (.sl 32 (l.map encTJob))))]
   [.vec 32 true ((l.take i).map encTJob ++ List.replicate (l.length - i) [.bool false, .bool false, .sl 3 [], .int .i64 0, .int .i64 0, .int .i64 0, .int .i64 0, .int .i64 0, .int .i64 0, .int .i64 0, .int .i64 0, .int .i64 0, .int .i64 0, .int .i64 0, .bool false, .int .i64 0, .int .i64 0, .int .i64 0, .int .i64 0, .int .i64 0, .int .i64 0, .int .i64 0, .int .i64 0, .int .i64 0, .int .i64 0, .bool false, .sl 2 [], .sl 3 [], .sl 2 [], .sl 1 [], .sl 1 [], .sl 1 []])]) l.length _
  (Ent.wk [0]) ⟨0, by omega, by omega, rfl⟩ ?_
 rintro n s ⟨i, hi, rfl, rfl⟩ K hK
 rcases Nat.lt_or_ge i l.length with hlt | hge
 ·have hdi : decide ((i : Int) < l.length) = true := by simpa using hlt
  simp (maxSteps := 2000000) only [go_sem, seval, hdi, getD_map hlt, encTJob, D.flat, ah hlt (le20 hl)]
  first | refine ⟨⟨by omega, by omega⟩, hlt, ?_⟩ | refine ⟨by omega, hlt, ?_⟩
  refine ae e135 (c135 l[i] (by have := au sizTJob hlt; unfold sizTJobS at h; omega)) rfl ?_
  simp (maxSteps := 2000000) only [go_sem, seval, encTJob, D.flat, ah hlt (le20 hl)]
  repeat' ((with_reducible show _ /\ _); apply And.intro)
  all_goals first
   | (apply hK
      refine ⟨l.length - (i + 1), _, by omega, Ent.weak (ids := [0]) (by simp) rfl (by simp) ?_ ?_ ?_, i + 1, by omega, rfl, rfl⟩
      ·simp only [objsLe, St.obj, find, AObj.renF, if_true, Option.getD_some, List.getD_cons_zero, and_true]
       rw [<- aS encTJob l _ hlt]
       exact ⟨by simp, Or.inr rfl⟩
      ·simp [objsLe, envLe, find, St.obj, AObj.renF, AV.renF, AV.renF1, Leaf.renF, LowAll, AV.Low, AV.Low1, Leaf.Low, AObj.Low, Ptr.renF, Ptr.Low]
      ·simp [objsLe, envLe, find, St.obj, AObj.renF, AV.renF, AV.renF1, Leaf.renF, LowAll, AV.Low, AV.Low1, Leaf.Low, AObj.Low, Ptr.renF, Ptr.Low])
   | omega
   | decide
   | (simp; done)
   | (simp; omega)
   | trivial
 ·have hge' : i = l.length := by omega
  subst hge'
  have hdi : decide ((l.length : Int) < l.length) = false := by simp
  refine sv3 ?_
  apply hK
  refine evl ?_
  refine Fin.nt results58 [0] ?_ ?_ ?_ <;> try trivial
  all_goals simp [objsLe, St.obj, find, AObj.renF]
theorem c34 (l l' : List TJob) (h0 : sizTJobS l <= 1048576) (h0' : sizTJobS l' <= 1048576) : Ctr prog 34 [.one (.dat (.sl 32 (l.map encTJob))), .one (.dat (.sl 32 (l'.map encTJob)))] [] (.one (.dat (.bool (decide (l = l'))))) [] := by
 have hl : l.length <= maxLen := (jh (by omega)).1
 have hl' : l'.length <= maxLen := (jh (by omega)).1
 refine Ctr.bd aa func34 rfl ?_
 refine evl ?_
 constructor <;> intro h
 ·have hne : l.length ≠ l'.length := by simp at h; omega
  refine Fin.nt results34 [] ?_ ?_ ?_ <;> try trivial
  (refine rsl ?_; try exact .intro)
  symm; rw [decide_eq_false_iff_not]
  intro e; exact hne (by rw [e])
 have hlen : l.length = l'.length := by simp at h; omega
 refine ab (fun n s => ∃ i : Nat, i <= l.length /\ n = l.length - i /\ l.take i = l'.take i /\ s = mkSt [(5, .one (.dat (.int .i64 i))), (1, .one (.dat (.sl 32 (l'.map encTJob)))), (0, .one (.dat (.sl 32 (l.map encTJob))))] []) l.length _
  (Ent.wk []) ⟨0, by omega, by omega, rfl, rfl⟩ ?_
 rintro n s ⟨i, hi, rfl, ht, rfl⟩ K hK
 rcases Nat.lt_or_ge i l.length with hlt | hge
 ·have hdi : decide ((i : Int) < l.length) = true := by simpa using hlt
  have hlt' : i < l'.length := by omega
  simp (maxSteps := 2000000) only [go_sem, seval, hdi, ah hlt hl, getD_map hlt, getD_map hlt', encTJob]
  refine ⟨⟨by omega, by omega⟩, hlt, ⟨by omega, by omega⟩, hlt', ?_⟩
  first
   | refine aj e96 (fun _ => ⟨trivial, c96 l[i] l'[i] (by have := au sizTJob hlt; unfold sizTJobS at h0; omega) (by have := au sizTJob hlt'; unfold sizTJobS at h0'; omega)⟩) rfl rfl ?_
   | refine Or.inl (aj e96 (fun _ => ⟨trivial, c96 l[i] l'[i] (by have := au sizTJob hlt; unfold sizTJobS at h0; omega) (by have := au sizTJob hlt'; unfold sizTJobS at h0'; omega)⟩) rfl rfl ?_)
  refine sv0 ?_
  constructor <;> intro h
  ·apply hK
   refine evl ?_
   refine Fin.nt results34 [] ?_ ?_ ?_ <;> try trivial
   (refine rsl ?_; try exact .intro)
   symm; rw [decide_eq_false_iff_not]
   rintro rfl; simp at h
  ·apply hK
   have he : l[i] = l'[i] := by simpa using h
   exact ⟨l.length - (i + 1), _, by omega, Ent.wk [], i + 1, by omega, rfl, by rw [List.take_succ_eq_append_getElem hlt, List.take_succ_eq_append_getElem hlt', ht, he], rfl⟩
 ·have hge' : i = l.length := by omega
  subst hge'
  have hdi : decide ((l.length : Int) < l.length) = false := by simp
  refine sv3 ?_
  apply hK
  refine evl ?_
  refine Fin.nt results34 [] ?_ ?_ ?_ <;> try trivial
  (refine rsl ?_; try exact .intro)
  symm; rw [decide_eq_true_iff]
  rw [List.take_of_length_le (Nat.le_refl _), List.take_of_length_le (by omega)] at ht
  exact ht
structure TEv where
 Kind : Int
 Who : Int
 Serial : Int
 Code : Int
 Cmds : List Cmd
 Res : List Res
 deriving DecidableEq
def encTEv (x : TEv) : List D := [.int .i64 x.Kind, .int .i64 x.Who, .int .i64 x.Serial, .int .i64 x.Code, .sl 3 (x.Cmds.map encCmd), .sl 2 (x.Res.map encRes)]
def TEv.wf (x : TEv) : Prop := (Lit.int .i64 x.Kind).wf = true /\ (Lit.int .i64 x.Who).wf = true /\ (Lit.int .i64 x.Serial).wf = true /\ (Lit.int .i64 x.Code).wf = true /\ (∀ y ∈ x.Cmds, y.wf) /\ (∀ y ∈ x.Res, y.wf) /\ True
theorem TEv.eq_iff (x y : TEv) : x = y ↔ x.Kind = y.Kind /\ x.Who = y.Who /\ x.Serial = y.Serial /\ x.Code = y.Code /\ x.Cmds = y.Cmds /\ x.Res = y.Res := by cases x; cases y; simp
def TEv.lok (x : TEv) : Prop := x.Cmds.length <= maxLen /\ x.Res.length <= maxLen /\ True
def sizTEv (x : TEv) : Nat := x.Cmds.length + x.Res.length
def sizTEvS (l : List TEv) : Nat := l.length + (l.map sizTEv).sum
theorem oP (n : Nat) (ds : List D) (h : WT prog n 181 ds) : ∃ x : TEv, ds = encTEv x /\ x.wf /\ x.lok := by
 cases n with
 | zero => exact h.elim
 | succ n =>
  unfold WT at h
  rw [underlying181] at h
  simp only [List.toList_toArray, List.map_cons, List.map_nil, WTs] at h
  obtain ⟨_, _, rfl, h0, ⟨_, _, rfl, h1, ⟨_, _, rfl, h2, ⟨_, _, rfl, h3, ⟨_, _, rfl, h4, ⟨_, _, rfl, h5, rfl⟩⟩⟩⟩⟩⟩ := h
  obtain ⟨x0, rfl, w0⟩ := ao underlying3 h0
  obtain ⟨x1, rfl, w1⟩ := ao underlying3 h1
  obtain ⟨x2, rfl, w2⟩ := ao underlying3 h2
  obtain ⟨x3, rfl, w3⟩ := ao underlying3 h3
  obtain ⟨x4, rfl, c4, w4⟩ := aU (enc := encCmd) (q := fun x => x.wf /\ x.lok) underlying169 lJ mc h4
  obtain ⟨x5, rfl, c5, w5⟩ := aU (enc := encRes) (q := fun x => x.wf /\ x.lok) underlying176 lI me h5
  exact ⟨⟨x0, x1, x2, x3, x4, x5⟩, rfl, ⟨w0, w1, w2, w3, fun y hy => (w4 y hy).1, fun y hy => (w5 y hy).1, trivial⟩, ⟨c4, c5, trivial⟩⟩
theorem TEv.lok_of {x : TEv} (h : sizTEv x <= 16777216) : x.lok := by
 have hm : maxLen = 9223372036854775807 := rfl
 unfold sizTEv at h
 exact ⟨by omega, by omega, trivial⟩
theorem kh {l : List TEv} (h : sizTEvS l <= 16777216) : l.length <= maxLen /\ ∀ y ∈ l, y.lok := by
 have hm : maxLen = 9223372036854775807 := rfl
 unfold sizTEvS at h
 exact ⟨by omega, fun y hy => TEv.lok_of (by have := aX sizTEv hy; omega)⟩
theorem c121 (x : TEv) (hk : x.lok) (left : Int) (h0 : 0 <= left) (h1 : left <= 1048576) : Ctr prog 121 [.agg ((encTEv x).map .dat), .one (.dat (.int .i64 left))] [] (.one (.dat (.int .i64 (szL left (sizTEv x))))) [] := by
 simp only [encTEv, List.map_cons, List.map_nil]
 unfold sizTEv
 refine Ctr.bd aa func121 rfl ?_
 refine evl ?_
 obtain ⟨kCmds, kRes, _⟩ := hk
 refine ae e206 (c206 (x.Cmds.map encCmd) left h0 h1 (by simpa using kCmds)) rfl ?_
 refine evl ?_
 constructor <;> intro h
 ·refine Fin.nt results121 [] ?_ ?_ ?_ <;> try trivial
  (refine rsl ?_; try exact .intro)
  try simp only [List.length_map] at h
  exact ap (h) (by omega)
 try simp only [List.length_map] at h
 have a0 : decide (szL left (x.Cmds.length) < 0) = false := h
 obtain ⟨_, _, g0, u0⟩ := az h1 a0
 try simp only [List.length_map]
 refine ae e205 (c205 (x.Res.map encRes) (szL left (x.Cmds.length)) g0 u0 (by simpa using kRes)) rfl ?_
 refine evl ?_
 constructor <;> intro h
 ·refine Fin.nt results121 [] ?_ ?_ ?_ <;> try trivial
  (refine rsl ?_; try exact .intro)
  try simp only [List.length_map] at h
  exact ap (am h0 a0 ▸ h) (by omega)
 try simp only [List.length_map] at h
 have a1 : decide (szL left (x.Cmds.length + x.Res.length) < 0) = false := am h0 a0 ▸ h
 refine Fin.nt results121 [] ?_ ?_ ?_ <;> try trivial
 all_goals try ((refine rsl ?_; try exact .intro))
 all_goals try simp only [List.length_map]
 all_goals try exact am h0 a0
theorem c136 (x : TEv) (h : sizTEv x <= 1048576) : Ctr prog 136 [.agg ((encTEv x).map .dat)] [] (.agg [.dat (.int .i64 x.Kind), .dat (.int .i64 x.Who), .dat (.int .i64 x.Serial), .dat (.int .i64 x.Code), .own 0, .own 1]) [.vec 3 true (x.Cmds.map encCmd), .vec 2 true (x.Res.map encRes)] := by
 simp only [encTEv, List.map_cons, List.map_nil]
 unfold sizTEv at h
 refine Ctr.bd aa func136 rfl ?_
 refine evl ?_
 refine ae e229 (c229 x.Cmds (by omega)) rfl ?_
 refine evl ?_
 refine ae e228 (c228 x.Res (by omega)) rfl ?_
 refine evl ?_
 first | ((refine Fin.nt results136 [3, 4] ?_ ?_ ?_ <;> try trivial) <;> (first | rfl | exact entd); done) | ((refine Fin.nt results136 [2, 3] ?_ ?_ ?_ <;> try trivial) <;> (first | rfl | exact entd); done) | ((refine Fin.nt results136 [1, 2] ?_ ?_ ?_ <;> try trivial) <;> (first | rfl | exact entd); done) | ((refine Fin.nt results136 [0, 1] ?_ ?_ ?_ <;> try trivial) <;> (first | rfl | exact entd); done) | ((refine Fin.nt results136 [4, 5] ?_ ?_ ?_ <;> try trivial) <;> (first | rfl | exact entd); done) | ((refine Fin.nt results136 [5, 6] ?_ ?_ ?_ <;> try trivial) <;> (first | rfl | exact entd); done)
theorem c97 (x y : TEv) (hx : sizTEv x <= 1048576) (hy : sizTEv y <= 1048576) : Ctr prog 97 [.agg ((encTEv x).map .dat), .agg ((encTEv y).map .dat)] [] (.one (.dat (.bool (decide (x = y))))) [] := by
 simp only [encTEv, List.map_cons, List.map_nil]
 unfold sizTEv at hx hy
 have hm : maxLen = 9223372036854775807 := rfl
 refine Ctr.bd aa func97 rfl ?_
 refine evl ?_
 constructor <;> intro h
 ·refine Fin.nt results97 [] ?_ ?_ ?_ <;> try trivial
  (refine rsl ?_; try exact .intro)
  simp_all [TEv.eq_iff]
 have eKind := h; clear h
 constructor <;> intro h
 ·refine Fin.nt results97 [] ?_ ?_ ?_ <;> try trivial
  (refine rsl ?_; try exact .intro)
  simp_all [TEv.eq_iff]
 have eWho := h; clear h
 constructor <;> intro h
 ·refine Fin.nt results97 [] ?_ ?_ ?_ <;> try trivial
  (refine rsl ?_; try exact .intro)
  simp_all [TEv.eq_iff]
 have eSerial := h; clear h
 constructor <;> intro h
 ·refine Fin.nt results97 [] ?_ ?_ ?_ <;> try trivial
  (refine rsl ?_; try exact .intro)
  simp_all [TEv.eq_iff]
 have eCode := h; clear h
 refine ck e190 (c190 x.Cmds y.Cmds (by omega) (by omega)) rfl ?_
 refine evl ?_
 constructor <;> intro h
 ·refine Fin.nt results97 [] ?_ ?_ ?_ <;> try trivial
  (refine rsl ?_; try exact .intro)
  simp_all [TEv.eq_iff]
 have eCmds := h; clear h
 refine ck e189 (c189 x.Res y.Res (by omega) (by omega)) rfl ?_
 refine evl ?_
 constructor <;> intro h
 ·refine Fin.nt results97 [] ?_ ?_ ?_ <;> try trivial
  (refine rsl ?_; try exact .intro)
  simp_all [TEv.eq_iff]
 have eRes := h; clear h
 refine Fin.nt results97 [] ?_ ?_ ?_ <;> try trivial
 (refine rsl ?_; try exact .intro)
 simp_all [TEv.eq_iff]
theorem c50 (l : List TEv) (hl : l.length <= maxLen) (hk : ∀ y ∈ l, y.lok) (left : Int) (h0 : 0 <= left) (h1 : left <= 1048576) : Ctr prog 50 [.one (.dat (.sl 6 (l.map encTEv))), .one (.dat (.int .i64 left))] [] (.one (.dat (.int .i64 (szL left (sizTEvS l))))) [] := by
 have hw := aT h0 h1 hl
 unfold sizTEvS
 refine Ctr.bd aa func50 rfl ?_
 refine sv2 ?_
 constructor <;> intro h
 ·refine Fin.nt results50 [] ?_ ?_ ?_ <;> try trivial
  (refine rsl ?_; try exact .intro)
  exact ap (left := left) (a := l.length) (by rw [szL_raw]; exact h) (by omega)
 have a0 : decide (szL left l.length < 0) = false := by rw [szL_raw]; exact h
 have e0 : left - (l.length : Int) = szL left (l.length + ((l.take 0).map sizTEv).sum) := by
  have := (az h1 a0).2.1; simp; exact this.symm
 rw [e0]
 refine ab (fun n s => ∃ i : Nat, i <= l.length /\ n = l.length - i /\ decide (szL left (l.length + ((l.take i).map sizTEv).sum) < 0) = false /\ s = mkSt [(5, .one (.dat (.int .i64 i))), (1, .one (.dat (.int .i64 (szL left (l.length + ((l.take i).map sizTEv).sum))))), (0, .one (.dat (.sl 6 (l.map encTEv))))] []) l.length _
  (Ent.wk []) ⟨0, by omega, by omega, by simpa using a0, rfl⟩ ?_
 rintro n s ⟨i, hi, rfl, ht, rfl⟩ K hK
 rcases Nat.lt_or_ge i l.length with hlt | hge
 ·have hdi : decide ((i : Int) < l.length) = true := by simpa using hlt
  have hwi := ah hlt hl
  have hs := a9 sizTEv hlt
  have hs2 := bt sizTEv l (i + 1)
  obtain ⟨_, _, g, u⟩ := az h1 ht
  simp (maxSteps := 2000000) only [go_sem, seval, hdi, hwi, getD_map hlt, encTEv]
  refine ⟨⟨by omega, by omega⟩, hlt, ?_⟩
  refine ae e121 (c121 l[i] (hk _ (List.getElem_mem hlt)) _ g u) rfl ?_
  refine sv4 ?_
  rw [Nat.add_assoc, <- hs]
  constructor <;> intro h
  ·apply hK
   refine evl ?_
   refine Fin.nt results50 [] ?_ ?_ ?_ <;> try trivial
   (refine rsl ?_; try exact .intro)
   exact ap h (by omega)
  ·apply hK
   exact ⟨l.length - (i + 1), _, by omega, Ent.wk [], i + 1, by omega, rfl, h, rfl⟩
 ·have hge' : i = l.length := by omega
  subst hge'
  have hdi : decide ((l.length : Int) < l.length) = false := by simp
  refine sv3 ?_
  apply hK
  refine evl ?_
  refine Fin.nt results50 [] ?_ ?_ ?_ <;> try trivial
  all_goals try ((refine rsl ?_; try exact .intro))
  all_goals simp
theorem c59 (l : List TEv) (h : sizTEvS l <= 1048576) : Ctr prog 59 [.one (.dat (.sl 6 (l.map encTEv)))] [] (.one (.own 0)) [.vec 6 true (l.map encTEv)] := by
 have hl : l.length <= 1048576 := by unfold sizTEvS at h; omega
 refine Ctr.bd aa func59 rfl ?_
 refine evl ?_
 refine ⟨by omega, ?_⟩
 refine ab (fun n s => ∃ i : Nat, i <= l.length /\ n = l.length - i /\ s = mkSt [(4, .one (.dat (.int .i64 i))), (3, .one (.own 0)), (0, .one (.dat (.sl 6 (l.map encTEv))))]
   [.vec 6 true ((l.take i).map encTEv ++ List.replicate (l.length - i) [.int .i64 0, .int .i64 0, .int .i64 0, .int .i64 0, .sl 3 [], .sl 2 []])]) l.length _
  (Ent.wk [0]) ⟨0, by omega, by omega, rfl⟩ ?_
 rintro n s ⟨i, hi, rfl, rfl⟩ K hK
 rcases Nat.lt_or_ge i l.length with hlt | hge
 ·have hdi : decide ((i : Int) < l.length) = true := by simpa using hlt
  simp (maxSteps := 2000000) only [go_sem, seval, hdi, getD_map hlt, encTEv, D.flat, ah hlt (le20 hl)]
  first | refine ⟨⟨by omega, by omega⟩, hlt, ?_⟩ | refine ⟨by omega, hlt, ?_⟩
  refine ae e136 (c136 l[i] (by have := au sizTEv hlt; unfold sizTEvS at h; omega)) rfl ?_
  simp (maxSteps := 2000000) only [go_sem, seval, encTEv, D.flat, ah hlt (le20 hl)]
  repeat' ((with_reducible show _ /\ _); apply And.intro)
  all_goals first
   | (apply hK
      refine ⟨l.length - (i + 1), _, by omega, Ent.weak (ids := [0]) (by simp) rfl (by simp) ?_ ?_ ?_, i + 1, by omega, rfl, rfl⟩
      ·simp only [objsLe, St.obj, find, AObj.renF, if_true, Option.getD_some, List.getD_cons_zero, and_true]
       rw [<- aS encTEv l _ hlt]
       exact ⟨by simp, Or.inr rfl⟩
      ·simp [objsLe, envLe, find, St.obj, AObj.renF, AV.renF, AV.renF1, Leaf.renF, LowAll, AV.Low, AV.Low1, Leaf.Low, AObj.Low, Ptr.renF, Ptr.Low]
      ·simp [objsLe, envLe, find, St.obj, AObj.renF, AV.renF, AV.renF1, Leaf.renF, LowAll, AV.Low, AV.Low1, Leaf.Low, AObj.Low, Ptr.renF, Ptr.Low])
   | omega
   | decide
   | (simp; done)
   | (simp; omega)
   | trivial
 ·have hge' : i = l.length := by omega
  subst hge'
  have hdi : decide ((l.length : Int) < l.length) = false := by simp
  refine sv3 ?_
  apply hK
  refine evl ?_
  refine Fin.nt results59 [0] ?_ ?_ ?_ <;> try trivial
  all_goals simp [objsLe, St.obj, find, AObj.renF]
theorem c35 (l l' : List TEv) (h0 : sizTEvS l <= 1048576) (h0' : sizTEvS l' <= 1048576) : Ctr prog 35 [.one (.dat (.sl 6 (l.map encTEv))), .one (.dat (.sl 6 (l'.map encTEv)))] [] (.one (.dat (.bool (decide (l = l'))))) [] := by
 have hl : l.length <= maxLen := (kh (by omega)).1
 have hl' : l'.length <= maxLen := (kh (by omega)).1
 refine Ctr.bd aa func35 rfl ?_
 refine evl ?_
 constructor <;> intro h
 ·have hne : l.length ≠ l'.length := by simp at h; omega
  refine Fin.nt results35 [] ?_ ?_ ?_ <;> try trivial
  (refine rsl ?_; try exact .intro)
  symm; rw [decide_eq_false_iff_not]
  intro e; exact hne (by rw [e])
 have hlen : l.length = l'.length := by simp at h; omega
 refine ab (fun n s => ∃ i : Nat, i <= l.length /\ n = l.length - i /\ l.take i = l'.take i /\ s = mkSt [(5, .one (.dat (.int .i64 i))), (1, .one (.dat (.sl 6 (l'.map encTEv)))), (0, .one (.dat (.sl 6 (l.map encTEv))))] []) l.length _
  (Ent.wk []) ⟨0, by omega, by omega, rfl, rfl⟩ ?_
 rintro n s ⟨i, hi, rfl, ht, rfl⟩ K hK
 rcases Nat.lt_or_ge i l.length with hlt | hge
 ·have hdi : decide ((i : Int) < l.length) = true := by simpa using hlt
  have hlt' : i < l'.length := by omega
  simp (maxSteps := 2000000) only [go_sem, seval, hdi, ah hlt hl, getD_map hlt, getD_map hlt', encTEv]
  refine ⟨⟨by omega, by omega⟩, hlt, ⟨by omega, by omega⟩, hlt', ?_⟩
  first
   | refine aj e97 (fun _ => ⟨trivial, c97 l[i] l'[i] (by have := au sizTEv hlt; unfold sizTEvS at h0; omega) (by have := au sizTEv hlt'; unfold sizTEvS at h0'; omega)⟩) rfl rfl ?_
   | refine Or.inl (aj e97 (fun _ => ⟨trivial, c97 l[i] l'[i] (by have := au sizTEv hlt; unfold sizTEvS at h0; omega) (by have := au sizTEv hlt'; unfold sizTEvS at h0'; omega)⟩) rfl rfl ?_)
  refine sv0 ?_
  constructor <;> intro h
  ·apply hK
   refine evl ?_
   refine Fin.nt results35 [] ?_ ?_ ?_ <;> try trivial
   (refine rsl ?_; try exact .intro)
   symm; rw [decide_eq_false_iff_not]
   rintro rfl; simp at h
  ·apply hK
   have he : l[i] = l'[i] := by simpa using h
   exact ⟨l.length - (i + 1), _, by omega, Ent.wk [], i + 1, by omega, rfl, by rw [List.take_succ_eq_append_getElem hlt, List.take_succ_eq_append_getElem hlt', ht, he], rfl⟩
 ·have hge' : i = l.length := by omega
  subst hge'
  have hdi : decide ((l.length : Int) < l.length) = false := by simp
  refine sv3 ?_
  apply hK
  refine evl ?_
  refine Fin.nt results35 [] ?_ ?_ ?_ <;> try trivial
  (refine rsl ?_; try exact .intro)
  symm; rw [decide_eq_true_iff]
  rw [List.take_of_length_le (Nat.le_refl _), List.take_of_length_le (by omega)] at ht
  exact ht
structure Table where
 Base : Base
 Bkts : List Bkt
 Jobs : List TJob
 Todo : List TQueue
 Log : List TEv
 Serial : Int
 deriving DecidableEq
def encTable (x : Table) : List D := [.sl 1 (x.Base.Mem.Heap.Bytes.map encI), .sl 1 (x.Base.Mem.Heap.Class.map encI), .sl 1 (x.Base.Mem.Lists.Global.map encSList), .sl 1 (x.Base.Mem.Lists.Own.map encSList), .int .i64 x.Base.Clock.Epoch, .sl 4 (x.Base.Clock.Pins.map encPin), .sl 1 (x.Base.Limbo.map encLList), .sl 1 (x.Base.Haz.map encI), .sl 3 (x.Bkts.map encBkt), .sl 32 (x.Jobs.map encTJob), .sl 1 (x.Todo.map encTQueue), .sl 6 (x.Log.map encTEv), .int .i64 x.Serial]
def Table.wf (x : Table) : Prop := x.Base.wf /\ (∀ y ∈ x.Bkts, y.wf) /\ (∀ y ∈ x.Jobs, y.wf) /\ (∀ y ∈ x.Todo, y.wf) /\ (∀ y ∈ x.Log, y.wf) /\ (Lit.int .i64 x.Serial).wf = true /\ True
theorem Table.eq_iff (x y : Table) : x = y ↔ x.Base = y.Base /\ x.Bkts = y.Bkts /\ x.Jobs = y.Jobs /\ x.Todo = y.Todo /\ x.Log = y.Log /\ x.Serial = y.Serial := by cases x; cases y; simp
def Table.lok (x : Table) : Prop := x.Base.lok /\ x.Bkts.length <= maxLen /\ x.Jobs.length <= maxLen /\ (∀ y ∈ x.Jobs, y.lok) /\ x.Todo.length <= maxLen /\ (∀ y ∈ x.Todo, y.lok) /\ x.Log.length <= maxLen /\ (∀ y ∈ x.Log, y.lok) /\ True
def sizTable (x : Table) : Nat := sizBase x.Base + x.Bkts.length + sizTJobS x.Jobs + sizTQueueS x.Todo + sizTEvS x.Log
theorem na (n : Nat) (ds : List D) (h : WT prog n 67 ds) : ∃ x : Table, ds = encTable x /\ x.wf /\ x.lok := by
 cases n with
 | zero => exact h.elim
 | succ n =>
  unfold WT at h
  rw [underlying67] at h
  simp only [List.toList_toArray, List.map_cons, List.map_nil, WTs] at h
  obtain ⟨_, _, rfl, h0, ⟨_, _, rfl, h1, ⟨_, _, rfl, h2, ⟨_, _, rfl, h3, ⟨_, _, rfl, h4, ⟨_, _, rfl, h5, rfl⟩⟩⟩⟩⟩⟩ := h
  obtain ⟨x0, rfl, w0, k0⟩ := nR _ _ h0
  obtain ⟨x1, rfl, c1, w1⟩ := aU (enc := encBkt) (q := fun x => x.wf /\ x.lok) underlying63 oC oO h1
  obtain ⟨x2, rfl, c2, w2⟩ := aU (enc := encTJob) (q := fun x => x.wf /\ x.lok) underlying64 oA nU h2
  obtain ⟨x3, rfl, c3, w3⟩ := aU (enc := encTQueue) (q := fun x => x.wf /\ x.lok) underlying22 oY md h3
  obtain ⟨x4, rfl, c4, w4⟩ := aU (enc := encTEv) (q := fun x => x.wf /\ x.lok) underlying65 oB oP h4
  obtain ⟨x5, rfl, w5⟩ := ao underlying3 h5
  exact ⟨⟨x0, x1, x2, x3, x4, x5⟩, rfl, ⟨w0, fun y hy => (w1 y hy).1, fun y hy => (w2 y hy).1, fun y hy => (w3 y hy).1, fun y hy => (w4 y hy).1, w5, trivial⟩, ⟨k0, c1, c2, fun y hy => (w2 y hy).2, c3, fun y hy => (w3 y hy).2, c4, fun y hy => (w4 y hy).2, trivial⟩⟩
theorem c15 (x : Table) (hk : x.lok) (left : Int) (h0 : 0 <= left) (h1 : left <= 1048576) : Ctr prog 15 [.agg ((encTable x).map .dat), .one (.dat (.int .i64 left))] [] (.one (.dat (.int .i64 (szL left (sizTable x))))) [] := by
 simp only [encTable, List.map_cons, List.map_nil]
 unfold sizTable
 refine Ctr.bd aa func15 rfl ?_
 refine evl ?_
 obtain ⟨kBase, kBkts, kJobs, qJobs, kTodo, qTodo, kLog, qLog, _⟩ := hk
 refine ae e47 (c47 x.Base kBase left h0 h1) rfl ?_
 refine evl ?_
 constructor <;> intro h
 ·refine Fin.nt results15 [] ?_ ?_ ?_ <;> try trivial
  (refine rsl ?_; try exact .intro)
  try simp only [List.length_map] at h
  exact ap (h) (by omega)
 try simp only [List.length_map] at h
 have a0 : decide (szL left (sizBase x.Base) < 0) = false := h
 obtain ⟨_, _, g0, u0⟩ := az h1 a0
 try simp only [List.length_map]
 refine ae e48 (c48 (x.Bkts.map encBkt) (szL left (sizBase x.Base)) g0 u0 (by simpa using kBkts)) rfl ?_
 refine evl ?_
 constructor <;> intro h
 ·refine Fin.nt results15 [] ?_ ?_ ?_ <;> try trivial
  (refine rsl ?_; try exact .intro)
  try simp only [List.length_map] at h
  exact ap (am h0 a0 ▸ h) (by omega)
 try simp only [List.length_map] at h
 have a1 : decide (szL left (sizBase x.Base + x.Bkts.length) < 0) = false := am h0 a0 ▸ h
 obtain ⟨_, _, g1, u1⟩ := az h1 a1
 try simp only [List.length_map]
 rw [am h0 a0]
 refine ae e49 (c49 x.Jobs kJobs qJobs (szL left (sizBase x.Base + x.Bkts.length)) g1 u1) rfl ?_
 refine evl ?_
 constructor <;> intro h
 ·refine Fin.nt results15 [] ?_ ?_ ?_ <;> try trivial
  (refine rsl ?_; try exact .intro)
  try simp only [List.length_map] at h
  exact ap (am h0 a1 ▸ h) (by omega)
 try simp only [List.length_map] at h
 have a2 : decide (szL left (sizBase x.Base + x.Bkts.length + sizTJobS x.Jobs) < 0) = false := am h0 a1 ▸ h
 obtain ⟨_, _, g2, u2⟩ := az h1 a2
 try simp only [List.length_map]
 rw [am h0 a1]
 refine ae e6 (c6 x.Todo kTodo qTodo (szL left (sizBase x.Base + x.Bkts.length + sizTJobS x.Jobs)) g2 u2) rfl ?_
 refine evl ?_
 constructor <;> intro h
 ·refine Fin.nt results15 [] ?_ ?_ ?_ <;> try trivial
  (refine rsl ?_; try exact .intro)
  try simp only [List.length_map] at h
  exact ap (am h0 a2 ▸ h) (by omega)
 try simp only [List.length_map] at h
 have a3 : decide (szL left (sizBase x.Base + x.Bkts.length + sizTJobS x.Jobs + sizTQueueS x.Todo) < 0) = false := am h0 a2 ▸ h
 obtain ⟨_, _, g3, u3⟩ := az h1 a3
 try simp only [List.length_map]
 rw [am h0 a2]
 refine ae e50 (c50 x.Log kLog qLog (szL left (sizBase x.Base + x.Bkts.length + sizTJobS x.Jobs + sizTQueueS x.Todo)) g3 u3) rfl ?_
 refine evl ?_
 constructor <;> intro h
 ·refine Fin.nt results15 [] ?_ ?_ ?_ <;> try trivial
  (refine rsl ?_; try exact .intro)
  try simp only [List.length_map] at h
  exact ap (am h0 a3 ▸ h) (by omega)
 try simp only [List.length_map] at h
 have a4 : decide (szL left (sizBase x.Base + x.Bkts.length + sizTJobS x.Jobs + sizTQueueS x.Todo + sizTEvS x.Log) < 0) = false := am h0 a3 ▸ h
 refine Fin.nt results15 [] ?_ ?_ ?_ <;> try trivial
 all_goals try ((refine rsl ?_; try exact .intro))
 all_goals try simp only [List.length_map]
 all_goals try exact am h0 a3
theorem c17 (x : Table) (h : sizTable x <= 1048576) : Ctr prog 17 [.agg ((encTable x).map .dat)] [] (.agg [.own 0, .own 1, .own 2, .own 3, .dat (.int .i64 x.Base.Clock.Epoch), .own 4, .own 5, .own 6, .own 7, .own 8, .own 9, .own 10, .dat (.int .i64 x.Serial)]) [.vec 1 true (x.Base.Mem.Heap.Bytes.map encI), .vec 1 true (x.Base.Mem.Heap.Class.map encI), .vec 1 true (x.Base.Mem.Lists.Global.map encSList), .vec 1 true (x.Base.Mem.Lists.Own.map encSList), .vec 4 true (x.Base.Clock.Pins.map encPin), .vec 1 true (x.Base.Limbo.map encLList), .vec 1 true (x.Base.Haz.map encI), .vec 3 true (x.Bkts.map encBkt), .vec 32 true (x.Jobs.map encTJob), .vec 1 true (x.Todo.map encTQueue), .vec 6 true (x.Log.map encTEv)] := by
 simp only [encTable, List.map_cons, List.map_nil]
 unfold sizTable at h
 refine Ctr.bd aa func17 rfl ?_
 refine evl ?_
 refine ae e56 (c56 x.Base (by omega)) rfl ?_
 refine evl ?_
 refine ae e57 (c57 x.Bkts (by omega)) rfl ?_
 refine evl ?_
 refine ae e58 (c58 x.Jobs (by omega)) rfl ?_
 refine evl ?_
 refine ae e8 (c8 x.Todo (by omega)) rfl ?_
 refine evl ?_
 refine ae e59 (c59 x.Log (by omega)) rfl ?_
 refine evl ?_
 first | ((refine Fin.nt results17 [3, 4, 5, 6, 7, 8, 9, 10, 11, 12, 13] ?_ ?_ ?_ <;> try trivial) <;> (first | rfl | exact entd); done) | ((refine Fin.nt results17 [2, 3, 4, 5, 6, 7, 8, 9, 10, 11, 12] ?_ ?_ ?_ <;> try trivial) <;> (first | rfl | exact entd); done) | ((refine Fin.nt results17 [1, 2, 3, 4, 5, 6, 7, 8, 9, 10, 11] ?_ ?_ ?_ <;> try trivial) <;> (first | rfl | exact entd); done) | ((refine Fin.nt results17 [0, 1, 2, 3, 4, 5, 6, 7, 8, 9, 10] ?_ ?_ ?_ <;> try trivial) <;> (first | rfl | exact entd); done) | ((refine Fin.nt results17 [4, 5, 6, 7, 8, 9, 10, 11, 12, 13, 14] ?_ ?_ ?_ <;> try trivial) <;> (first | rfl | exact entd); done) | ((refine Fin.nt results17 [5, 6, 7, 8, 9, 10, 11, 12, 13, 14, 15] ?_ ?_ ?_ <;> try trivial) <;> (first | rfl | exact entd); done)
theorem c10 (x y : Table) (hx : sizTable x <= 1048576) (hy : sizTable y <= 1048576) : Ctr prog 10 [.agg ((encTable x).map .dat), .agg ((encTable y).map .dat)] [] (.one (.dat (.bool (decide (x = y))))) [] := by
 simp only [encTable, List.map_cons, List.map_nil]
 unfold sizTable at hx hy
 have hm : maxLen = 9223372036854775807 := rfl
 refine Ctr.bd aa func10 rfl ?_
 refine evl ?_
 refine ck e32 (c32 x.Base y.Base (by omega) (by omega)) rfl ?_
 refine evl ?_
 constructor <;> intro h
 ·refine Fin.nt results10 [] ?_ ?_ ?_ <;> try trivial
  (refine rsl ?_; try exact .intro)
  simp_all [Table.eq_iff]
 have eBase := h; clear h
 refine ck e33 (c33 x.Bkts y.Bkts (by omega) (by omega)) rfl ?_
 refine evl ?_
 constructor <;> intro h
 ·refine Fin.nt results10 [] ?_ ?_ ?_ <;> try trivial
  (refine rsl ?_; try exact .intro)
  simp_all [Table.eq_iff]
 have eBkts := h; clear h
 refine ck e34 (c34 x.Jobs y.Jobs (by omega) (by omega)) rfl ?_
 refine evl ?_
 constructor <;> intro h
 ·refine Fin.nt results10 [] ?_ ?_ ?_ <;> try trivial
  (refine rsl ?_; try exact .intro)
  simp_all [Table.eq_iff]
 have eJobs := h; clear h
 refine ck e11 (c11 x.Todo y.Todo (by omega) (by omega)) rfl ?_
 refine evl ?_
 constructor <;> intro h
 ·refine Fin.nt results10 [] ?_ ?_ ?_ <;> try trivial
  (refine rsl ?_; try exact .intro)
  simp_all [Table.eq_iff]
 have eTodo := h; clear h
 refine ck e35 (c35 x.Log y.Log (by omega) (by omega)) rfl ?_
 refine evl ?_
 constructor <;> intro h
 ·refine Fin.nt results10 [] ?_ ?_ ?_ <;> try trivial
  (refine rsl ?_; try exact .intro)
  simp_all [Table.eq_iff]
 have eLog := h; clear h
 constructor <;> intro h
 ·refine Fin.nt results10 [] ?_ ?_ ?_ <;> try trivial
  (refine rsl ?_; try exact .intro)
  simp_all [Table.eq_iff]
 have eSerial := h; clear h
 refine Fin.nt results10 [] ?_ ?_ ?_ <;> try trivial
 (refine rsl ?_; try exact .intro)
 simp_all [Table.eq_iff]
end Go.Proofs.YtkmmgklnoagedaaGreat.Mod
