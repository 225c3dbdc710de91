/- Contracts: Fam2. -/
import Derived.Test.YtldpopbnlmoamaaGreatRows
import Derived.Test.YtldpopbnlmoamaaGreatTTy
import Derived.Test.YtldpopbnlmoamaaGreatAbsTac
import Derived.Test.YtldpopbnlmoamaaGreatAbsData
import Derived.Test.YtldpopbnlmoamaaGreatTFam
import Derived.WalkKit
import Derived.ProofKit
import Derived.OpenShut
namespace Go.Proofs.YtldpopbnlmoamaaGreat.Mod
open Go.Proofs.Tryz Go.Abs Go.Proofs.YtldpopbnlmoamaaGreat.Ty Go.ChangeShapes Go.WideShapes Go.ChangeAt Go.RowKit
set_option linter.unusedSimpArgs false
set_option linter.unusedVariables false
set_option maxHeartbeats 8000000
set_option maxRecDepth 100000
def encI (x : Int) : List D := [.int .i64 x]
theorem sum_get {α : Type} (f : α -> Nat) : ∀ {l : List α} {i : Nat} (h : i < l.length), f l[i] <= (l.map f).sum
 | x :: l, 0, _ => by simp
 | x :: l, i + 1, h => by
  have := sum_get f (l := l) (i := i) (by simpa using h)
  simp; omega
theorem sum_mem {α : Type} (f : α -> Nat) {l : List α} {x : α} (h : x ∈ l) : f x <= (l.map f).sum := by
 obtain ⟨i, hi, rfl⟩ := List.getElem_of_mem h
 exact sum_get f hi
theorem sum_take_succ {α : Type} (f : α -> Nat) {l : List α} {i : Nat} (h : i < l.length) : ((l.take (i + 1)).map f).sum = ((l.take i).map f).sum + f l[i] := by
 rw [List.take_succ_eq_append_getElem h, List.map_append, List.sum_append]; simp
theorem sum_take_le {α : Type} (f : α -> Nat) (l : List α) (i : Nat) : ((l.take i).map f).sum <= (l.map f).sum := by
 conv => rhs; rw [<- List.take_append_drop i l, List.map_append, List.sum_append]
 omega
theorem szL_raw {left : Int} {n : Nat} : decide (szL left n < 0) = decide (left - n < 0) := by
 unfold szL; split <;> simp <;> omega
theorem szL_at {left : Int} {a b : Nat} (h0 : 0 <= left) (h : decide (szL left a < 0) = false) : szL (szL left a) b = szL left (a + b) := by
 unfold szL at h ⊢
 split at h
 ·simp at h
 ·rename_i hn
  rw [if_neg hn]
  by_cases h2 : left - (a + b : Nat) < 0
  ·rw [if_pos h2, if_pos (by omega)]
  ·rw [if_neg h2, if_neg (by omega)]; omega
theorem szL_bad {left : Int} {a t : Nat} (h : decide (szL left a < 0) = true) (ht : a <= t) : (-1 : Int) = szL left t := by
 rw [szL_raw] at h
 simp at h
 unfold szL
 rw [if_pos (by omega)]
theorem c59 (rows : List (List D)) (left : Int) (h0 : 0 <= left) (h1 : left <= 1048576) (hl : rows.length <= maxLen) : Ctr prog 59 [.one (.dat (.sl 1 rows)), .one (.dat (.int .i64 left))] [] (.one (.dat (.int .i64 (szL left rows.length)))) [] := by
 have hw := szL_wrap h0 h1 hl
 refine Ctr.bd mixed func59 rfl ?_
 refine sv0 ?_
 repeat' first
  | ((with_reducible show Abs.Fin _ _ _ _ _ _); refine Fin.nt results59 [] ?_ ?_ ?_ <;> try trivial)
  | with_reducible intro h
  | ((with_reducible show _ /\ _); apply And.intro)
 all_goals try ((refine rsl ?_; try exact .intro))
 all_goals simp_all [szL]
 all_goals omega
theorem c67 (l : List Int) (h : l.length <= 1048576) : Ctr prog 67 [.one (.dat (.sl 1 (l.map encI)))] [] (.one (.own 0)) [.vec 1 true (l.map encI)] := by
 have hl : l.length <= 1048576 := by omega
 refine Ctr.bd mixed func67 rfl ?_
 refine evl ?_
 refine ⟨by omega, ?_⟩
 refine LoopK_intro (fun n s => ∃ i : Nat, i <= l.length /\ n = l.length - i /\ s = mkSt [(4, .one (.dat (.int .i64 i))), (3, .one (.own 0)), (0, .one (.dat (.sl 1 (l.map encI))))]
   [.vec 1 true ((l.take i).map encI ++ List.replicate (l.length - i) [.int .i64 0])]) l.length _
  (Ent.wk [0]) ⟨0, by omega, by omega, rfl⟩ ?_
 rintro n s ⟨i, hi, rfl, rfl⟩ K hK
 rcases Nat.lt_or_ge i l.length with hlt | hge
 ·have hdi : decide ((i : Int) < l.length) = true := by simpa using hlt
  simp (maxSteps := 2000000) only [go_sem, seval, hdi, getD_map hlt, encI, D.flat, wrap_succ hlt (le20 hl)]
  first | refine ⟨⟨by omega, by omega⟩, hlt, ?_⟩ | refine ⟨by omega, hlt, ?_⟩
  repeat' ((with_reducible show _ /\ _); apply And.intro)
  all_goals first
   | (apply hK
      refine ⟨l.length - (i + 1), _, by omega, Ent.weak (ids := [0]) (by simp) rfl (by simp) ?_ ?_ ?_, i + 1, by omega, rfl, rfl⟩
      ·simp only [objsLe, St.obj, find, AObj.renF, if_true, Option.getD_some, List.getD_cons_zero, and_true]
       rw [<- take_set encI l _ hlt]
       exact ⟨by simp, Or.inr rfl⟩
      ·simp [objsLe, envLe, find, St.obj, AObj.renF, AV.renF, AV.renF1, Leaf.renF, LowAll, AV.Low, AV.Low1, Leaf.Low, AObj.Low, Ptr.renF, Ptr.Low]
      ·simp [objsLe, envLe, find, St.obj, AObj.renF, AV.renF, AV.renF1, Leaf.renF, LowAll, AV.Low, AV.Low1, Leaf.Low, AObj.Low, Ptr.renF, Ptr.Low])
   | omega
   | decide
   | (simp; done)
   | (simp; omega)
   | trivial
 ·have hge' : i = l.length := by omega
  subst hge'
  have hdi : decide ((l.length : Int) < l.length) = false := by simp
  refine sv3 ?_
  apply hK
  refine evl ?_
  refine Fin.nt results67 [0] ?_ ?_ ?_ <;> try trivial
  all_goals simp [objsLe, St.obj, find, AObj.renF]
theorem c78 (l l' : List Int) (hl : l.length <= maxLen) (hl' : l'.length <= maxLen) : Ctr prog 78 [.one (.dat (.sl 1 (l.map encI))), .one (.dat (.sl 1 (l'.map encI)))] [] (.one (.dat (.bool (decide (l = l'))))) [] := by
 refine Ctr.bd mixed func78 rfl ?_
 refine evl ?_
 constructor <;> intro h
 ·have hne : l.length ≠ l'.length := by simp at h; omega
  refine Fin.nt results78 [] ?_ ?_ ?_ <;> try trivial
  (refine rsl ?_; try exact .intro)
  symm; rw [decide_eq_false_iff_not]
  intro e; exact hne (by rw [e])
 have hlen : l.length = l'.length := by simp at h; omega
 refine LoopK_intro (fun n s => ∃ i : Nat, i <= l.length /\ n = l.length - i /\ l.take i = l'.take i /\ s = mkSt [(5, .one (.dat (.int .i64 i))), (1, .one (.dat (.sl 1 (l'.map encI)))), (0, .one (.dat (.sl 1 (l.map encI))))] []) l.length _
  (Ent.wk []) ⟨0, by omega, by omega, rfl, rfl⟩ ?_
 rintro n s ⟨i, hi, rfl, ht, rfl⟩ K hK
 rcases Nat.lt_or_ge i l.length with hlt | hge
 ·have hdi : decide ((i : Int) < l.length) = true := by simpa using hlt
  have hlt' : i < l'.length := by omega
  simp (maxSteps := 2000000) only [go_sem, seval, hdi, wrap_succ hlt hl, getD_map hlt, getD_map hlt', encI]
  refine ⟨⟨by omega, by omega⟩, hlt, ⟨by omega, by omega⟩, hlt', ?_⟩
  constructor <;> intro h
  ·apply hK
   refine evl ?_
   refine Fin.nt results78 [] ?_ ?_ ?_ <;> try trivial
   (refine rsl ?_; try exact .intro)
   symm; rw [decide_eq_false_iff_not]
   rintro rfl; simp at h
  ·apply hK
   have he : l[i] = l'[i] := by simpa using h
   exact ⟨l.length - (i + 1), _, by omega, Ent.wk [], i + 1, by omega, rfl, by rw [List.take_succ_eq_append_getElem hlt, List.take_succ_eq_append_getElem hlt', ht, he], rfl⟩
 ·have hge' : i = l.length := by omega
  subst hge'
  have hdi : decide ((l.length : Int) < l.length) = false := by simp
  refine sv3 ?_
  apply hK
  refine evl ?_
  refine Fin.nt results78 [] ?_ ?_ ?_ <;> try trivial
  (refine rsl ?_; try exact .intro)
  symm; rw [decide_eq_true_iff]
  rw [List.take_of_length_le (Nat.le_refl _), List.take_of_length_le (by omega)] at ht
  exact ht
structure Heap where
 Bytes : List Int
 Class : List Int
 deriving DecidableEq
def encHeap (x : Heap) : List D := [.sl 1 (x.Bytes.map encI), .sl 1 (x.Class.map encI)]
def Heap.wf (x : Heap) : Prop := (∀ y ∈ x.Bytes, (Lit.int .i64 y).wf = true) /\ (∀ y ∈ x.Class, (Lit.int .i64 y).wf = true) /\ True
theorem Heap.eq_iff (x y : Heap) : x = y ↔ x.Bytes = y.Bytes /\ x.Class = y.Class := by cases x; cases y; simp
def Heap.lok (x : Heap) : Prop := x.Bytes.length <= maxLen /\ x.Class.length <= maxLen /\ True
def sizHeap (x : Heap) : Nat := x.Bytes.length + x.Class.length
def sizHeapS (l : List Heap) : Nat := l.length + (l.map sizHeap).sum
def zeroHeap : Heap := ⟨[], []⟩
theorem decHeap (n : Nat) (ds : List D) (h : WT prog n 24 ds) : ∃ x : Heap, ds = encHeap x /\ x.wf /\ x.lok := by
 cases n with
 | zero => exact h.elim
 | succ n =>
  unfold WT at h
  rw [underlying24] at h
  simp only [List.toList_toArray, List.map_cons, List.map_nil, WTs] at h
  obtain ⟨_, _, rfl, h0, ⟨_, _, rfl, h1, rfl⟩⟩ := h
  obtain ⟨x0, rfl, c0, w0⟩ := decSl (enc := encI) (q := fun x => (Lit.int .i64 x).wf = true) underlying22 tc_3 (fun _ _ h => decInt underlying3 h) h0
  obtain ⟨x1, rfl, c1, w1⟩ := decSl (enc := encI) (q := fun x => (Lit.int .i64 x).wf = true) underlying22 tc_3 (fun _ _ h => decInt underlying3 h) h1
  exact ⟨⟨x0, x1⟩, rfl, ⟨w0, w1, trivial⟩, ⟨c0, c1, trivial⟩⟩
theorem c113 (x : Heap) (hk : x.lok) (left : Int) (h0 : 0 <= left) (h1 : left <= 1048576) : Ctr prog 113 [.agg ((encHeap x).map .dat), .one (.dat (.int .i64 left))] [] (.one (.dat (.int .i64 (szL left (sizHeap x))))) [] := by
 simp only [encHeap, List.map_cons, List.map_nil]
 unfold sizHeap
 refine Ctr.bd mixed func113 rfl ?_
 refine evl ?_
 obtain ⟨kBytes, kClass, _⟩ := hk
 refine CallK_pure e59 (c59 (x.Bytes.map encI) left h0 h1 (by simpa using kBytes)) rfl ?_
 refine evl ?_
 constructor <;> intro h
 ·refine Fin.nt results113 [] ?_ ?_ ?_ <;> try trivial
  (refine rsl ?_; try exact .intro)
  try simp only [List.length_map] at h
  exact szL_bad (h) (by omega)
 try simp only [List.length_map] at h
 have a0 : decide (szL left (x.Bytes.length) < 0) = false := h
 obtain ⟨_, _, g0, u0⟩ := szL_le h1 a0
 try simp only [List.length_map]
 refine CallK_pure e59 (c59 (x.Class.map encI) (szL left (x.Bytes.length)) g0 u0 (by simpa using kClass)) rfl ?_
 refine evl ?_
 constructor <;> intro h
 ·refine Fin.nt results113 [] ?_ ?_ ?_ <;> try trivial
  (refine rsl ?_; try exact .intro)
  try simp only [List.length_map] at h
  exact szL_bad (szL_at h0 a0 ▸ h) (by omega)
 try simp only [List.length_map] at h
 have a1 : decide (szL left (x.Bytes.length + x.Class.length) < 0) = false := szL_at h0 a0 ▸ h
 refine Fin.nt results113 [] ?_ ?_ ?_ <;> try trivial
 all_goals try ((refine rsl ?_; try exact .intro))
 all_goals try simp only [List.length_map]
 all_goals try exact szL_at h0 a0
theorem c122 (x : Heap) (h : sizHeap x <= 1048576) : Ctr prog 122 [.agg ((encHeap x).map .dat)] [] (.agg [.own 0, .own 1]) [.vec 1 true (x.Bytes.map encI), .vec 1 true (x.Class.map encI)] := by
 simp only [encHeap, List.map_cons, List.map_nil]
 unfold sizHeap at h
 refine Ctr.bd mixed func122 rfl ?_
 refine evl ?_
 refine CallK_pure e67 (c67 x.Bytes (by omega)) rfl ?_
 refine evl ?_
 refine CallK_pure e67 (c67 x.Class (by omega)) rfl ?_
 refine evl ?_
 first | ((refine Fin.nt results122 [3, 4] ?_ ?_ ?_ <;> try trivial) <;> (first | rfl | exact entd); done) | ((refine Fin.nt results122 [2, 3] ?_ ?_ ?_ <;> try trivial) <;> (first | rfl | exact entd); done) | ((refine Fin.nt results122 [1, 2] ?_ ?_ ?_ <;> try trivial) <;> (first | rfl | exact entd); done) | ((refine Fin.nt results122 [0, 1] ?_ ?_ ?_ <;> try trivial) <;> (first | rfl | exact entd); done) | ((refine Fin.nt results122 [4, 5] ?_ ?_ ?_ <;> try trivial) <;> (first | rfl | exact entd); done) | ((refine Fin.nt results122 [5, 6] ?_ ?_ ?_ <;> try trivial) <;> (first | rfl | exact entd); done)
theorem c135 (x y : Heap) (hx : sizHeap x <= 1048576) (hy : sizHeap y <= 1048576) : Ctr prog 135 [.agg ((encHeap x).map .dat), .agg ((encHeap y).map .dat)] [] (.one (.dat (.bool (decide (x = y))))) [] := by
 simp only [encHeap, List.map_cons, List.map_nil]
 unfold sizHeap at hx hy
 have hm : maxLen = 9223372036854775807 := rfl
 refine Ctr.bd mixed func135 rfl ?_
 refine evl ?_
 refine ck e78 (c78 x.Bytes y.Bytes (by omega) (by omega)) rfl ?_
 refine evl ?_
 constructor <;> intro h
 ·refine Fin.nt results135 [] ?_ ?_ ?_ <;> try trivial
  (refine rsl ?_; try exact .intro)
  simp_all [Heap.eq_iff]
 have eBytes := h; clear h
 refine ck e78 (c78 x.Class y.Class (by omega) (by omega)) rfl ?_
 refine evl ?_
 constructor <;> intro h
 ·refine Fin.nt results135 [] ?_ ?_ ?_ <;> try trivial
  (refine rsl ?_; try exact .intro)
  simp_all [Heap.eq_iff]
 have eClass := h; clear h
 refine Fin.nt results135 [] ?_ ?_ ?_ <;> try trivial
 (refine rsl ?_; try exact .intro)
 simp_all [Heap.eq_iff]
structure SList where
 Slots : List Int
 deriving DecidableEq
def encSList (x : SList) : List D := [.sl 1 (x.Slots.map encI)]
def SList.wf (x : SList) : Prop := (∀ y ∈ x.Slots, (Lit.int .i64 y).wf = true) /\ True
theorem SList.eq_iff (x y : SList) : x = y ↔ x.Slots = y.Slots := by cases x; cases y; simp
def SList.lok (x : SList) : Prop := x.Slots.length <= maxLen /\ True
def sizSList (x : SList) : Nat := x.Slots.length
def sizSListS (l : List SList) : Nat := l.length + (l.map sizSList).sum
def zeroSList : SList := ⟨[]⟩
theorem decSList (n : Nat) (ds : List D) (h : WT prog n 259 ds) : ∃ x : SList, ds = encSList x /\ x.wf /\ x.lok := by
 cases n with
 | zero => exact h.elim
 | succ n =>
  unfold WT at h
  rw [underlying259] at h
  simp only [List.toList_toArray, List.map_cons, List.map_nil, WTs] at h
  obtain ⟨_, _, rfl, h0, rfl⟩ := h
  obtain ⟨x0, rfl, c0, w0⟩ := decSl (enc := encI) (q := fun x => (Lit.int .i64 x).wf = true) underlying22 tc_3 (fun _ _ h => decInt underlying3 h) h0
  exact ⟨⟨x0⟩, rfl, ⟨w0, trivial⟩, ⟨c0, trivial⟩⟩
theorem SList.lok_of {x : SList} (h : sizSList x <= 16777216) : x.lok := by
 have hm : maxLen = 9223372036854775807 := rfl
 unfold sizSList at h
 exact ⟨by omega, trivial⟩
theorem lokSListS {l : List SList} (h : sizSListS l <= 16777216) : l.length <= maxLen /\ ∀ y ∈ l, y.lok := by
 have hm : maxLen = 9223372036854775807 := rfl
 unfold sizSListS at h
 exact ⟨by omega, fun y hy => SList.lok_of (by have := sum_mem sizSList hy; omega)⟩
theorem c182 (x : SList) (hk : x.lok) (left : Int) (h0 : 0 <= left) (h1 : left <= 1048576) : Ctr prog 182 [.agg ((encSList x).map .dat), .one (.dat (.int .i64 left))] [] (.one (.dat (.int .i64 (szL left (sizSList x))))) [] := by
 simp only [encSList, List.map_cons, List.map_nil]
 unfold sizSList
 refine Ctr.bd mixed func182 rfl ?_
 refine evl ?_
 obtain ⟨kSlots, _⟩ := hk
 refine CallK_pure e59 (c59 (x.Slots.map encI) left h0 h1 (by simpa using kSlots)) rfl ?_
 refine evl ?_
 constructor <;> intro h
 ·refine Fin.nt results182 [] ?_ ?_ ?_ <;> try trivial
  (refine rsl ?_; try exact .intro)
  try simp only [List.length_map] at h
  exact szL_bad (h) (by omega)
 try simp only [List.length_map] at h
 have a0 : decide (szL left (x.Slots.length) < 0) = false := h
 refine Fin.nt results182 [] ?_ ?_ ?_ <;> try trivial
 all_goals try ((refine rsl ?_; try exact .intro))
 all_goals try simp only [List.length_map]
theorem c183 (x : SList) (h : sizSList x <= 1048576) : Ctr prog 183 [.agg ((encSList x).map .dat)] [] (.agg [.own 0]) [.vec 1 true (x.Slots.map encI)] := by
 simp only [encSList, List.map_cons, List.map_nil]
 unfold sizSList at h
 refine Ctr.bd mixed func183 rfl ?_
 refine evl ?_
 refine CallK_pure e67 (c67 x.Slots (by omega)) rfl ?_
 refine evl ?_
 first | ((refine Fin.nt results183 [3] ?_ ?_ ?_ <;> try trivial) <;> (first | rfl | exact entd); done) | ((refine Fin.nt results183 [2] ?_ ?_ ?_ <;> try trivial) <;> (first | rfl | exact entd); done) | ((refine Fin.nt results183 [1] ?_ ?_ ?_ <;> try trivial) <;> (first | rfl | exact entd); done) | ((refine Fin.nt results183 [0] ?_ ?_ ?_ <;> try trivial) <;> (first | rfl | exact entd); done) | ((refine Fin.nt results183 [4] ?_ ?_ ?_ <;> try trivial) <;> (first | rfl | exact entd); done) | ((refine Fin.nt results183 [5] ?_ ?_ ?_ <;> try trivial) <;> (first | rfl | exact entd); done)
theorem c185 (x y : SList) (hx : sizSList x <= 1048576) (hy : sizSList y <= 1048576) : Ctr prog 185 [.agg ((encSList x).map .dat), .agg ((encSList y).map .dat)] [] (.one (.dat (.bool (decide (x = y))))) [] := by
 simp only [encSList, List.map_cons, List.map_nil]
 unfold sizSList at hx hy
 have hm : maxLen = 9223372036854775807 := rfl
 refine Ctr.bd mixed func185 rfl ?_
 refine evl ?_
 refine ck e78 (c78 x.Slots y.Slots (by omega) (by omega)) rfl ?_
 refine evl ?_
 constructor <;> intro h
 ·refine Fin.nt results185 [] ?_ ?_ ?_ <;> try trivial
  (refine rsl ?_; try exact .intro)
  simp_all [SList.eq_iff]
 have eSlots := h; clear h
 refine Fin.nt results185 [] ?_ ?_ ?_ <;> try trivial
 (refine rsl ?_; try exact .intro)
 simp_all [SList.eq_iff]
theorem c164 (l : List SList) (hl : l.length <= maxLen) (hk : ∀ y ∈ l, y.lok) (left : Int) (h0 : 0 <= left) (h1 : left <= 1048576) : Ctr prog 164 [.one (.dat (.sl 1 (l.map encSList))), .one (.dat (.int .i64 left))] [] (.one (.dat (.int .i64 (szL left (sizSListS l))))) [] := by
 have hw := szL_wrap h0 h1 hl
 unfold sizSListS
 refine Ctr.bd mixed func164 rfl ?_
 refine sv0 ?_
 constructor <;> intro h
 ·refine Fin.nt results164 [] ?_ ?_ ?_ <;> try trivial
  (refine rsl ?_; try exact .intro)
  exact szL_bad (left := left) (a := l.length) (by rw [szL_raw]; exact h) (by omega)
 have a0 : decide (szL left l.length < 0) = false := by rw [szL_raw]; exact h
 have e0 : left - (l.length : Int) = szL left (l.length + ((l.take 0).map sizSList).sum) := by
  have := (szL_le h1 a0).2.1; simp; exact this.symm
 rw [e0]
 refine LoopK_intro (fun n s => ∃ i : Nat, i <= l.length /\ n = l.length - i /\ decide (szL left (l.length + ((l.take i).map sizSList).sum) < 0) = false /\ s = mkSt [(5, .one (.dat (.int .i64 i))), (1, .one (.dat (.int .i64 (szL left (l.length + ((l.take i).map sizSList).sum))))), (0, .one (.dat (.sl 1 (l.map encSList))))] []) l.length _
  (Ent.wk []) ⟨0, by omega, by omega, by simpa using a0, rfl⟩ ?_
 rintro n s ⟨i, hi, rfl, ht, rfl⟩ K hK
 rcases Nat.lt_or_ge i l.length with hlt | hge
 ·have hdi : decide ((i : Int) < l.length) = true := by simpa using hlt
  have hwi := wrap_succ hlt hl
  have hs := sum_take_succ sizSList hlt
  have hs2 := sum_take_le sizSList l (i + 1)
  obtain ⟨_, _, g, u⟩ := szL_le h1 ht
  simp (maxSteps := 2000000) only [go_sem, seval, hdi, hwi, getD_map hlt, encSList]
  refine ⟨⟨by omega, by omega⟩, hlt, ?_⟩
  refine CallK_pure e182 (c182 l[i] (hk _ (List.getElem_mem hlt)) _ g u) rfl ?_
  refine sv4 ?_
  rw [Nat.add_assoc, <- hs]
  constructor <;> intro h
  ·apply hK
   refine evl ?_
   refine Fin.nt results164 [] ?_ ?_ ?_ <;> try trivial
   (refine rsl ?_; try exact .intro)
   exact szL_bad h (by omega)
  ·apply hK
   exact ⟨l.length - (i + 1), _, by omega, Ent.wk [], i + 1, by omega, rfl, h, rfl⟩
 ·have hge' : i = l.length := by omega
  subst hge'
  have hdi : decide ((l.length : Int) < l.length) = false := by simp
  refine sv3 ?_
  apply hK
  refine evl ?_
  refine Fin.nt results164 [] ?_ ?_ ?_ <;> try trivial
  all_goals try ((refine rsl ?_; try exact .intro))
  all_goals simp
theorem c166 (l : List SList) (h : sizSListS l <= 1048576) : Ctr prog 166 [.one (.dat (.sl 1 (l.map encSList)))] [] (.one (.own 0)) [.vec 1 true (l.map encSList)] := by
 have hl : l.length <= 1048576 := by unfold sizSListS at h; omega
 refine Ctr.bd mixed func166 rfl ?_
 refine evl ?_
 refine ⟨by omega, ?_⟩
 refine LoopK_intro (fun n s => ∃ i : Nat, i <= l.length /\ n = l.length - i /\ s = mkSt [(4, .one (.dat (.int .i64 i))), (3, .one (.own 0)), (0, .one (.dat (.sl 1 (l.map encSList))))]
   [.vec 1 true ((l.take i).map encSList ++ List.replicate (l.length - i) [.sl 1 []])]) l.length _
  (Ent.wk [0]) ⟨0, by omega, by omega, rfl⟩ ?_
 rintro n s ⟨i, hi, rfl, rfl⟩ K hK
 rcases Nat.lt_or_ge i l.length with hlt | hge
 ·have hdi : decide ((i : Int) < l.length) = true := by simpa using hlt
  simp (maxSteps := 2000000) only [go_sem, seval, hdi, getD_map hlt, encSList, D.flat, wrap_succ hlt (le20 hl)]
  first | refine ⟨⟨by omega, by omega⟩, hlt, ?_⟩ | refine ⟨by omega, hlt, ?_⟩
  refine CallK_pure e183 (c183 l[i] (by have := sum_get sizSList hlt; unfold sizSListS at h; omega)) rfl ?_
  simp (maxSteps := 2000000) only [go_sem, seval, encSList, D.flat, wrap_succ hlt (le20 hl)]
  repeat' ((with_reducible show _ /\ _); apply And.intro)
  all_goals first
   | (apply hK
      refine ⟨l.length - (i + 1), _, by omega, Ent.weak (ids := [0]) (by simp) rfl (by simp) ?_ ?_ ?_, i + 1, by omega, rfl, rfl⟩
      ·simp only [objsLe, St.obj, find, AObj.renF, if_true, Option.getD_some, List.getD_cons_zero, and_true]
       rw [<- take_set encSList l _ hlt]
       exact ⟨by simp, Or.inr rfl⟩
      ·simp [objsLe, envLe, find, St.obj, AObj.renF, AV.renF, AV.renF1, Leaf.renF, LowAll, AV.Low, AV.Low1, Leaf.Low, AObj.Low, Ptr.renF, Ptr.Low]
      ·simp [objsLe, envLe, find, St.obj, AObj.renF, AV.renF, AV.renF1, Leaf.renF, LowAll, AV.Low, AV.Low1, Leaf.Low, AObj.Low, Ptr.renF, Ptr.Low])
   | omega
   | decide
   | (simp; done)
   | (simp; omega)
   | trivial
 ·have hge' : i = l.length := by omega
  subst hge'
  have hdi : decide ((l.length : Int) < l.length) = false := by simp
  refine sv3 ?_
  apply hK
  refine evl ?_
  refine Fin.nt results166 [0] ?_ ?_ ?_ <;> try trivial
  all_goals simp [objsLe, St.obj, find, AObj.renF]
theorem c173 (l l' : List SList) (h0 : sizSListS l <= 1048576) (h0' : sizSListS l' <= 1048576) : Ctr prog 173 [.one (.dat (.sl 1 (l.map encSList))), .one (.dat (.sl 1 (l'.map encSList)))] [] (.one (.dat (.bool (decide (l = l'))))) [] := by
 have hl : l.length <= maxLen := (lokSListS (by omega)).1
 have hl' : l'.length <= maxLen := (lokSListS (by omega)).1
 refine Ctr.bd mixed func173 rfl ?_
 refine evl ?_
 constructor <;> intro h
 ·have hne : l.length ≠ l'.length := by simp at h; omega
  refine Fin.nt results173 [] ?_ ?_ ?_ <;> try trivial
  (refine rsl ?_; try exact .intro)
  symm; rw [decide_eq_false_iff_not]
  intro e; exact hne (by rw [e])
 have hlen : l.length = l'.length := by simp at h; omega
 refine LoopK_intro (fun n s => ∃ i : Nat, i <= l.length /\ n = l.length - i /\ l.take i = l'.take i /\ s = mkSt [(5, .one (.dat (.int .i64 i))), (1, .one (.dat (.sl 1 (l'.map encSList)))), (0, .one (.dat (.sl 1 (l.map encSList))))] []) l.length _
  (Ent.wk []) ⟨0, by omega, by omega, rfl, rfl⟩ ?_
 rintro n s ⟨i, hi, rfl, ht, rfl⟩ K hK
 rcases Nat.lt_or_ge i l.length with hlt | hge
 ·have hdi : decide ((i : Int) < l.length) = true := by simpa using hlt
  have hlt' : i < l'.length := by omega
  simp (maxSteps := 2000000) only [go_sem, seval, hdi, wrap_succ hlt hl, getD_map hlt, getD_map hlt', encSList]
  refine ⟨⟨by omega, by omega⟩, hlt, ⟨by omega, by omega⟩, hlt', ?_⟩
  first
   | refine CCallK_intro e185 (fun _ => ⟨trivial, c185 l[i] l'[i] (by have := sum_get sizSList hlt; unfold sizSListS at h0; omega) (by have := sum_get sizSList hlt'; unfold sizSListS at h0'; omega)⟩) rfl rfl ?_
   | refine Or.inl (CCallK_intro e185 (fun _ => ⟨trivial, c185 l[i] l'[i] (by have := sum_get sizSList hlt; unfold sizSListS at h0; omega) (by have := sum_get sizSList hlt'; unfold sizSListS at h0'; omega)⟩) rfl rfl ?_)
  refine sv1 ?_
  constructor <;> intro h
  ·apply hK
   refine evl ?_
   refine Fin.nt results173 [] ?_ ?_ ?_ <;> try trivial
   (refine rsl ?_; try exact .intro)
   symm; rw [decide_eq_false_iff_not]
   rintro rfl; simp at h
  ·apply hK
   have he : l[i] = l'[i] := by simpa using h
   exact ⟨l.length - (i + 1), _, by omega, Ent.wk [], i + 1, by omega, rfl, by rw [List.take_succ_eq_append_getElem hlt, List.take_succ_eq_append_getElem hlt', ht, he], rfl⟩
 ·have hge' : i = l.length := by omega
  subst hge'
  have hdi : decide ((l.length : Int) < l.length) = false := by simp
  refine sv3 ?_
  apply hK
  refine evl ?_
  refine Fin.nt results173 [] ?_ ?_ ?_ <;> try trivial
  (refine rsl ?_; try exact .intro)
  symm; rw [decide_eq_true_iff]
  rw [List.take_of_length_le (Nat.le_refl _), List.take_of_length_le (by omega)] at ht
  exact ht
structure Lists where
 Global : List SList
 Own : List SList
 deriving DecidableEq
def encLists (x : Lists) : List D := [.sl 1 (x.Global.map encSList), .sl 1 (x.Own.map encSList)]
def Lists.wf (x : Lists) : Prop := (∀ y ∈ x.Global, y.wf) /\ (∀ y ∈ x.Own, y.wf) /\ True
theorem Lists.eq_iff (x y : Lists) : x = y ↔ x.Global = y.Global /\ x.Own = y.Own := by cases x; cases y; simp
def Lists.lok (x : Lists) : Prop := x.Global.length <= maxLen /\ (∀ y ∈ x.Global, y.lok) /\ x.Own.length <= maxLen /\ (∀ y ∈ x.Own, y.lok) /\ True
def sizLists (x : Lists) : Nat := sizSListS x.Global + sizSListS x.Own
def sizListsS (l : List Lists) : Nat := l.length + (l.map sizLists).sum
def zeroLists : Lists := ⟨[], []⟩
theorem decLists (n : Nat) (ds : List D) (h : WT prog n 27 ds) : ∃ x : Lists, ds = encLists x /\ x.wf /\ x.lok := by
 cases n with
 | zero => exact h.elim
 | succ n =>
  unfold WT at h
  rw [underlying27] at h
  simp only [List.toList_toArray, List.map_cons, List.map_nil, WTs] at h
  obtain ⟨_, _, rfl, h0, ⟨_, _, rfl, h1, rfl⟩⟩ := h
  obtain ⟨x0, rfl, c0, w0⟩ := decSl (enc := encSList) (q := fun x => x.wf /\ x.lok) underlying25 tc_259 decSList h0
  obtain ⟨x1, rfl, c1, w1⟩ := decSl (enc := encSList) (q := fun x => x.wf /\ x.lok) underlying25 tc_259 decSList h1
  exact ⟨⟨x0, x1⟩, rfl, ⟨fun y hy => (w0 y hy).1, fun y hy => (w1 y hy).1, trivial⟩, ⟨c0, fun y hy => (w0 y hy).2, c1, fun y hy => (w1 y hy).2, trivial⟩⟩
theorem c114 (x : Lists) (hk : x.lok) (left : Int) (h0 : 0 <= left) (h1 : left <= 1048576) : Ctr prog 114 [.agg ((encLists x).map .dat), .one (.dat (.int .i64 left))] [] (.one (.dat (.int .i64 (szL left (sizLists x))))) [] := by
 simp only [encLists, List.map_cons, List.map_nil]
 unfold sizLists
 refine Ctr.bd mixed func114 rfl ?_
 refine evl ?_
 obtain ⟨kGlobal, qGlobal, kOwn, qOwn, _⟩ := hk
 refine CallK_pure e164 (c164 x.Global kGlobal qGlobal left h0 h1) rfl ?_
 refine evl ?_
 constructor <;> intro h
 ·refine Fin.nt results114 [] ?_ ?_ ?_ <;> try trivial
  (refine rsl ?_; try exact .intro)
  try simp only [List.length_map] at h
  exact szL_bad (h) (by omega)
 try simp only [List.length_map] at h
 have a0 : decide (szL left (sizSListS x.Global) < 0) = false := h
 obtain ⟨_, _, g0, u0⟩ := szL_le h1 a0
 try simp only [List.length_map]
 refine CallK_pure e164 (c164 x.Own kOwn qOwn (szL left (sizSListS x.Global)) g0 u0) rfl ?_
 refine evl ?_
 constructor <;> intro h
 ·refine Fin.nt results114 [] ?_ ?_ ?_ <;> try trivial
  (refine rsl ?_; try exact .intro)
  try simp only [List.length_map] at h
  exact szL_bad (szL_at h0 a0 ▸ h) (by omega)
 try simp only [List.length_map] at h
 have a1 : decide (szL left (sizSListS x.Global + sizSListS x.Own) < 0) = false := szL_at h0 a0 ▸ h
 refine Fin.nt results114 [] ?_ ?_ ?_ <;> try trivial
 all_goals try ((refine rsl ?_; try exact .intro))
 all_goals try simp only [List.length_map]
 all_goals try exact szL_at h0 a0
theorem c123 (x : Lists) (h : sizLists x <= 1048576) : Ctr prog 123 [.agg ((encLists x).map .dat)] [] (.agg [.own 0, .own 1]) [.vec 1 true (x.Global.map encSList), .vec 1 true (x.Own.map encSList)] := by
 simp only [encLists, List.map_cons, List.map_nil]
 unfold sizLists at h
 refine Ctr.bd mixed func123 rfl ?_
 refine evl ?_
 refine CallK_pure e166 (c166 x.Global (by omega)) rfl ?_
 refine evl ?_
 refine CallK_pure e166 (c166 x.Own (by omega)) rfl ?_
 refine evl ?_
 first | ((refine Fin.nt results123 [3, 4] ?_ ?_ ?_ <;> try trivial) <;> (first | rfl | exact entd); done) | ((refine Fin.nt results123 [2, 3] ?_ ?_ ?_ <;> try trivial) <;> (first | rfl | exact entd); done) | ((refine Fin.nt results123 [1, 2] ?_ ?_ ?_ <;> try trivial) <;> (first | rfl | exact entd); done) | ((refine Fin.nt results123 [0, 1] ?_ ?_ ?_ <;> try trivial) <;> (first | rfl | exact entd); done) | ((refine Fin.nt results123 [4, 5] ?_ ?_ ?_ <;> try trivial) <;> (first | rfl | exact entd); done) | ((refine Fin.nt results123 [5, 6] ?_ ?_ ?_ <;> try trivial) <;> (first | rfl | exact entd); done)
theorem c136 (x y : Lists) (hx : sizLists x <= 1048576) (hy : sizLists y <= 1048576) : Ctr prog 136 [.agg ((encLists x).map .dat), .agg ((encLists y).map .dat)] [] (.one (.dat (.bool (decide (x = y))))) [] := by
 simp only [encLists, List.map_cons, List.map_nil]
 unfold sizLists at hx hy
 have hm : maxLen = 9223372036854775807 := rfl
 refine Ctr.bd mixed func136 rfl ?_
 refine evl ?_
 refine ck e173 (c173 x.Global y.Global (by omega) (by omega)) rfl ?_
 refine evl ?_
 constructor <;> intro h
 ·refine Fin.nt results136 [] ?_ ?_ ?_ <;> try trivial
  (refine rsl ?_; try exact .intro)
  simp_all [Lists.eq_iff]
 have eGlobal := h; clear h
 refine ck e173 (c173 x.Own y.Own (by omega) (by omega)) rfl ?_
 refine evl ?_
 constructor <;> intro h
 ·refine Fin.nt results136 [] ?_ ?_ ?_ <;> try trivial
  (refine rsl ?_; try exact .intro)
  simp_all [Lists.eq_iff]
 have eOwn := h; clear h
 refine Fin.nt results136 [] ?_ ?_ ?_ <;> try trivial
 (refine rsl ?_; try exact .intro)
 simp_all [Lists.eq_iff]
structure Mem where
 Heap : Heap
 Lists : Lists
 deriving DecidableEq
def encMem (x : Mem) : List D := [.sl 1 (x.Heap.Bytes.map encI), .sl 1 (x.Heap.Class.map encI), .sl 1 (x.Lists.Global.map encSList), .sl 1 (x.Lists.Own.map encSList)]
def Mem.wf (x : Mem) : Prop := x.Heap.wf /\ x.Lists.wf /\ True
theorem Mem.eq_iff (x y : Mem) : x = y ↔ x.Heap = y.Heap /\ x.Lists = y.Lists := by cases x; cases y; simp
def Mem.lok (x : Mem) : Prop := x.Heap.lok /\ x.Lists.lok /\ True
def sizMem (x : Mem) : Nat := sizHeap x.Heap + sizLists x.Lists
def sizMemS (l : List Mem) : Nat := l.length + (l.map sizMem).sum
def zeroMem : Mem := ⟨zeroHeap, zeroLists⟩
theorem decMem (n : Nat) (ds : List D) (h : WT prog n 29 ds) : ∃ x : Mem, ds = encMem x /\ x.wf /\ x.lok := by
 cases n with
 | zero => exact h.elim
 | succ n =>
  unfold WT at h
  rw [underlying29] at h
  simp only [List.toList_toArray, List.map_cons, List.map_nil, WTs] at h
  obtain ⟨_, _, rfl, h0, ⟨_, _, rfl, h1, rfl⟩⟩ := h
  obtain ⟨x0, rfl, w0, k0⟩ := decHeap _ _ h0
  obtain ⟨x1, rfl, w1, k1⟩ := decLists _ _ h1
  exact ⟨⟨x0, x1⟩, rfl, ⟨w0, w1, trivial⟩, ⟨k0, k1, trivial⟩⟩
theorem c56 (x : Mem) (hk : x.lok) (left : Int) (h0 : 0 <= left) (h1 : left <= 1048576) : Ctr prog 56 [.agg ((encMem x).map .dat), .one (.dat (.int .i64 left))] [] (.one (.dat (.int .i64 (szL left (sizMem x))))) [] := by
 simp only [encMem, List.map_cons, List.map_nil]
 unfold sizMem
 refine Ctr.bd mixed func56 rfl ?_
 refine evl ?_
 obtain ⟨kHeap, kLists, _⟩ := hk
 refine CallK_pure e113 (c113 x.Heap kHeap left h0 h1) rfl ?_
 refine evl ?_
 constructor <;> intro h
 ·refine Fin.nt results56 [] ?_ ?_ ?_ <;> try trivial
  (refine rsl ?_; try exact .intro)
  try simp only [List.length_map] at h
  exact szL_bad (h) (by omega)
 try simp only [List.length_map] at h
 have a0 : decide (szL left (sizHeap x.Heap) < 0) = false := h
 obtain ⟨_, _, g0, u0⟩ := szL_le h1 a0
 try simp only [List.length_map]
 refine CallK_pure e114 (c114 x.Lists kLists (szL left (sizHeap x.Heap)) g0 u0) rfl ?_
 refine evl ?_
 constructor <;> intro h
 ·refine Fin.nt results56 [] ?_ ?_ ?_ <;> try trivial
  (refine rsl ?_; try exact .intro)
  try simp only [List.length_map] at h
  exact szL_bad (szL_at h0 a0 ▸ h) (by omega)
 try simp only [List.length_map] at h
 have a1 : decide (szL left (sizHeap x.Heap + sizLists x.Lists) < 0) = false := szL_at h0 a0 ▸ h
 refine Fin.nt results56 [] ?_ ?_ ?_ <;> try trivial
 all_goals try ((refine rsl ?_; try exact .intro))
 all_goals try simp only [List.length_map]
 all_goals try exact szL_at h0 a0
theorem c64 (x : Mem) (h : sizMem x <= 1048576) : Ctr prog 64 [.agg ((encMem x).map .dat)] [] (.agg [.own 0, .own 1, .own 2, .own 3]) [.vec 1 true (x.Heap.Bytes.map encI), .vec 1 true (x.Heap.Class.map encI), .vec 1 true (x.Lists.Global.map encSList), .vec 1 true (x.Lists.Own.map encSList)] := by
 simp only [encMem, List.map_cons, List.map_nil]
 unfold sizMem at h
 refine Ctr.bd mixed func64 rfl ?_
 refine evl ?_
 refine CallK_pure e122 (c122 x.Heap (by omega)) rfl ?_
 refine evl ?_
 refine CallK_pure e123 (c123 x.Lists (by omega)) rfl ?_
 refine evl ?_
 first | ((refine Fin.nt results64 [3, 4, 5, 6] ?_ ?_ ?_ <;> try trivial) <;> (first | rfl | exact entd); done) | ((refine Fin.nt results64 [2, 3, 4, 5] ?_ ?_ ?_ <;> try trivial) <;> (first | rfl | exact entd); done) | ((refine Fin.nt results64 [1, 2, 3, 4] ?_ ?_ ?_ <;> try trivial) <;> (first | rfl | exact entd); done) | ((refine Fin.nt results64 [0, 1, 2, 3] ?_ ?_ ?_ <;> try trivial) <;> (first | rfl | exact entd); done) | ((refine Fin.nt results64 [4, 5, 6, 7] ?_ ?_ ?_ <;> try trivial) <;> (first | rfl | exact entd); done) | ((refine Fin.nt results64 [5, 6, 7, 8] ?_ ?_ ?_ <;> try trivial) <;> (first | rfl | exact entd); done)
theorem c75 (x y : Mem) (hx : sizMem x <= 1048576) (hy : sizMem y <= 1048576) : Ctr prog 75 [.agg ((encMem x).map .dat), .agg ((encMem y).map .dat)] [] (.one (.dat (.bool (decide (x = y))))) [] := by
 simp only [encMem, List.map_cons, List.map_nil]
 unfold sizMem at hx hy
 have hm : maxLen = 9223372036854775807 := rfl
 refine Ctr.bd mixed func75 rfl ?_
 refine evl ?_
 refine ck e135 (c135 x.Heap y.Heap (by omega) (by omega)) rfl ?_
 refine evl ?_
 constructor <;> intro h
 ·refine Fin.nt results75 [] ?_ ?_ ?_ <;> try trivial
  (refine rsl ?_; try exact .intro)
  simp_all [Mem.eq_iff]
 have eHeap := h; clear h
 refine ck e136 (c136 x.Lists y.Lists (by omega) (by omega)) rfl ?_
 refine evl ?_
 constructor <;> intro h
 ·refine Fin.nt results75 [] ?_ ?_ ?_ <;> try trivial
  (refine rsl ?_; try exact .intro)
  simp_all [Mem.eq_iff]
 have eLists := h; clear h
 refine Fin.nt results75 [] ?_ ?_ ?_ <;> try trivial
 (refine rsl ?_; try exact .intro)
 simp_all [Mem.eq_iff]
def Pin.lok (x : Pin) : Prop := True
def zeroPin : Pin := ⟨false, 0, false, 0⟩
theorem decPin (n : Nat) (ds : List D) (h : WT prog n 237 ds) : ∃ x : Pin, ds = encPin x /\ x.wf /\ x.lok := by
 cases n with
 | zero => exact h.elim
 | succ n =>
  unfold WT at h
  rw [underlying237] at h
  simp only [List.toList_toArray, List.map_cons, List.map_nil, WTs] at h
  obtain ⟨_, _, rfl, h0, ⟨_, _, rfl, h1, ⟨_, _, rfl, h2, ⟨_, _, rfl, h3, rfl⟩⟩⟩⟩ := h
  obtain ⟨x0, rfl⟩ := decBool underlying4 h0
  obtain ⟨x1, rfl, w1⟩ := decInt underlying3 h1
  obtain ⟨x2, rfl⟩ := decBool underlying4 h2
  obtain ⟨x3, rfl, w3⟩ := decInt underlying3 h3
  exact ⟨⟨x0, x1, x2, x3⟩, rfl, ⟨w1, w3, trivial⟩, trivial⟩
structure Clock where
 Epoch : Int
 Pins : List Pin
 deriving DecidableEq
def encClock (x : Clock) : List D := [.int .i64 x.Epoch, .sl 4 (x.Pins.map encPin)]
def Clock.wf (x : Clock) : Prop := (Lit.int .i64 x.Epoch).wf = true /\ (∀ y ∈ x.Pins, y.wf) /\ True
theorem Clock.eq_iff (x y : Clock) : x = y ↔ x.Epoch = y.Epoch /\ x.Pins = y.Pins := by cases x; cases y; simp
def Clock.lok (x : Clock) : Prop := x.Pins.length <= maxLen /\ True
def sizClock (x : Clock) : Nat := x.Pins.length
def sizClockS (l : List Clock) : Nat := l.length + (l.map sizClock).sum
def zeroClock : Clock := ⟨0, []⟩
theorem decClock (n : Nat) (ds : List D) (h : WT prog n 32 ds) : ∃ x : Clock, ds = encClock x /\ x.wf /\ x.lok := by
 cases n with
 | zero => exact h.elim
 | succ n =>
  unfold WT at h
  rw [underlying32] at h
  simp only [List.toList_toArray, List.map_cons, List.map_nil, WTs] at h
  obtain ⟨_, _, rfl, h0, ⟨_, _, rfl, h1, rfl⟩⟩ := h
  obtain ⟨x0, rfl, w0⟩ := decInt underlying3 h0
  obtain ⟨x1, rfl, c1, w1⟩ := decSl (enc := encPin) (q := fun x => x.wf /\ x.lok) underlying30 tc_237 decPin h1
  exact ⟨⟨x0, x1⟩, rfl, ⟨w0, fun y hy => (w1 y hy).1, trivial⟩, ⟨c1, trivial⟩⟩
theorem c57 (x : Clock) (hk : x.lok) (left : Int) (h0 : 0 <= left) (h1 : left <= 1048576) : Ctr prog 57 [.agg ((encClock x).map .dat), .one (.dat (.int .i64 left))] [] (.one (.dat (.int .i64 (szL left (sizClock x))))) [] := by
 simp only [encClock, List.map_cons, List.map_nil]
 unfold sizClock
 refine Ctr.bd mixed func57 rfl ?_
 refine evl ?_
 obtain ⟨kPins, _⟩ := hk
 refine CallK_pure e115 (c115 (x.Pins.map encPin) left h0 h1 (by simpa using kPins)) rfl ?_
 refine evl ?_
 constructor <;> intro h
 ·refine Fin.nt results57 [] ?_ ?_ ?_ <;> try trivial
  (refine rsl ?_; try exact .intro)
  try simp only [List.length_map] at h
  exact szL_bad (h) (by omega)
 try simp only [List.length_map] at h
 have a0 : decide (szL left (x.Pins.length) < 0) = false := h
 refine Fin.nt results57 [] ?_ ?_ ?_ <;> try trivial
 all_goals try ((refine rsl ?_; try exact .intro))
 all_goals try simp only [List.length_map]
theorem c65 (x : Clock) (h : sizClock x <= 1048576) : Ctr prog 65 [.agg ((encClock x).map .dat)] [] (.agg [.dat (.int .i64 x.Epoch), .own 0]) [.vec 4 true (x.Pins.map encPin)] := by
 simp only [encClock, List.map_cons, List.map_nil]
 unfold sizClock at h
 refine Ctr.bd mixed func65 rfl ?_
 refine evl ?_
 refine CallK_pure e124 (c124 x.Pins (by omega)) rfl ?_
 refine evl ?_
 first | ((refine Fin.nt results65 [3] ?_ ?_ ?_ <;> try trivial) <;> (first | rfl | exact entd); done) | ((refine Fin.nt results65 [2] ?_ ?_ ?_ <;> try trivial) <;> (first | rfl | exact entd); done) | ((refine Fin.nt results65 [1] ?_ ?_ ?_ <;> try trivial) <;> (first | rfl | exact entd); done) | ((refine Fin.nt results65 [0] ?_ ?_ ?_ <;> try trivial) <;> (first | rfl | exact entd); done) | ((refine Fin.nt results65 [4] ?_ ?_ ?_ <;> try trivial) <;> (first | rfl | exact entd); done) | ((refine Fin.nt results65 [5] ?_ ?_ ?_ <;> try trivial) <;> (first | rfl | exact entd); done)
theorem c76 (x y : Clock) (hx : sizClock x <= 1048576) (hy : sizClock y <= 1048576) : Ctr prog 76 [.agg ((encClock x).map .dat), .agg ((encClock y).map .dat)] [] (.one (.dat (.bool (decide (x = y))))) [] := by
 simp only [encClock, List.map_cons, List.map_nil]
 unfold sizClock at hx hy
 have hm : maxLen = 9223372036854775807 := rfl
 refine Ctr.bd mixed func76 rfl ?_
 refine evl ?_
 constructor <;> intro h
 ·refine Fin.nt results76 [] ?_ ?_ ?_ <;> try trivial
  (refine rsl ?_; try exact .intro)
  simp_all [Clock.eq_iff]
 have eEpoch := h; clear h
 refine ck e137 (c137 x.Pins y.Pins (by omega) (by omega)) rfl ?_
 refine evl ?_
 constructor <;> intro h
 ·refine Fin.nt results76 [] ?_ ?_ ?_ <;> try trivial
  (refine rsl ?_; try exact .intro)
  simp_all [Clock.eq_iff]
 have ePins := h; clear h
 refine Fin.nt results76 [] ?_ ?_ ?_ <;> try trivial
 (refine rsl ?_; try exact .intro)
 simp_all [Clock.eq_iff]
def LRow.lok (x : LRow) : Prop := True
def zeroLRow : LRow := ⟨0, 0⟩
theorem decLRow (n : Nat) (ds : List D) (h : WT prog n 263 ds) : ∃ x : LRow, ds = encLRow x /\ x.wf /\ x.lok := by
 cases n with
 | zero => exact h.elim
 | succ n =>
  unfold WT at h
  rw [underlying263] at h
  simp only [List.toList_toArray, List.map_cons, List.map_nil, WTs] at h
  obtain ⟨_, _, rfl, h0, ⟨_, _, rfl, h1, rfl⟩⟩ := h
  obtain ⟨x0, rfl, w0⟩ := decInt underlying3 h0
  obtain ⟨x1, rfl, w1⟩ := decInt underlying3 h1
  exact ⟨⟨x0, x1⟩, rfl, ⟨w0, w1, trivial⟩, trivial⟩
structure LList where
 Rows : List LRow
 deriving DecidableEq
def encLList (x : LList) : List D := [.sl 2 (x.Rows.map encLRow)]
def LList.wf (x : LList) : Prop := (∀ y ∈ x.Rows, y.wf) /\ True
theorem LList.eq_iff (x y : LList) : x = y ↔ x.Rows = y.Rows := by cases x; cases y; simp
def LList.lok (x : LList) : Prop := x.Rows.length <= maxLen /\ True
def sizLList (x : LList) : Nat := x.Rows.length
def sizLListS (l : List LList) : Nat := l.length + (l.map sizLList).sum
def zeroLList : LList := ⟨[]⟩
theorem decLList (n : Nat) (ds : List D) (h : WT prog n 185 ds) : ∃ x : LList, ds = encLList x /\ x.wf /\ x.lok := by
 cases n with
 | zero => exact h.elim
 | succ n =>
  unfold WT at h
  rw [underlying185] at h
  simp only [List.toList_toArray, List.map_cons, List.map_nil, WTs] at h
  obtain ⟨_, _, rfl, h0, rfl⟩ := h
  obtain ⟨x0, rfl, c0, w0⟩ := decSl (enc := encLRow) (q := fun x => x.wf /\ x.lok) underlying183 tc_263 decLRow h0
  exact ⟨⟨x0⟩, rfl, ⟨fun y hy => (w0 y hy).1, trivial⟩, ⟨c0, trivial⟩⟩
theorem LList.lok_of {x : LList} (h : sizLList x <= 16777216) : x.lok := by
 have hm : maxLen = 9223372036854775807 := rfl
 unfold sizLList at h
 exact ⟨by omega, trivial⟩
theorem lokLListS {l : List LList} (h : sizLListS l <= 16777216) : l.length <= maxLen /\ ∀ y ∈ l, y.lok := by
 have hm : maxLen = 9223372036854775807 := rfl
 unfold sizLListS at h
 exact ⟨by omega, fun y hy => LList.lok_of (by have := sum_mem sizLList hy; omega)⟩
theorem c116 (x : LList) (hk : x.lok) (left : Int) (h0 : 0 <= left) (h1 : left <= 1048576) : Ctr prog 116 [.agg ((encLList x).map .dat), .one (.dat (.int .i64 left))] [] (.one (.dat (.int .i64 (szL left (sizLList x))))) [] := by
 simp only [encLList, List.map_cons, List.map_nil]
 unfold sizLList
 refine Ctr.bd mixed func116 rfl ?_
 refine evl ?_
 obtain ⟨kRows, _⟩ := hk
 refine CallK_pure e165 (c165 (x.Rows.map encLRow) left h0 h1 (by simpa using kRows)) rfl ?_
 refine evl ?_
 constructor <;> intro h
 ·refine Fin.nt results116 [] ?_ ?_ ?_ <;> try trivial
  (refine rsl ?_; try exact .intro)
  try simp only [List.length_map] at h
  exact szL_bad (h) (by omega)
 try simp only [List.length_map] at h
 have a0 : decide (szL left (x.Rows.length) < 0) = false := h
 refine Fin.nt results116 [] ?_ ?_ ?_ <;> try trivial
 all_goals try ((refine rsl ?_; try exact .intro))
 all_goals try simp only [List.length_map]
theorem c125 (x : LList) (h : sizLList x <= 1048576) : Ctr prog 125 [.agg ((encLList x).map .dat)] [] (.agg [.own 0]) [.vec 2 true (x.Rows.map encLRow)] := by
 simp only [encLList, List.map_cons, List.map_nil]
 unfold sizLList at h
 refine Ctr.bd mixed func125 rfl ?_
 refine evl ?_
 refine CallK_pure e168 (c168 x.Rows (by omega)) rfl ?_
 refine evl ?_
 first | ((refine Fin.nt results125 [3] ?_ ?_ ?_ <;> try trivial) <;> (first | rfl | exact entd); done) | ((refine Fin.nt results125 [2] ?_ ?_ ?_ <;> try trivial) <;> (first | rfl | exact entd); done) | ((refine Fin.nt results125 [1] ?_ ?_ ?_ <;> try trivial) <;> (first | rfl | exact entd); done) | ((refine Fin.nt results125 [0] ?_ ?_ ?_ <;> try trivial) <;> (first | rfl | exact entd); done) | ((refine Fin.nt results125 [4] ?_ ?_ ?_ <;> try trivial) <;> (first | rfl | exact entd); done) | ((refine Fin.nt results125 [5] ?_ ?_ ?_ <;> try trivial) <;> (first | rfl | exact entd); done)
theorem c138 (x y : LList) (hx : sizLList x <= 1048576) (hy : sizLList y <= 1048576) : Ctr prog 138 [.agg ((encLList x).map .dat), .agg ((encLList y).map .dat)] [] (.one (.dat (.bool (decide (x = y))))) [] := by
 simp only [encLList, List.map_cons, List.map_nil]
 unfold sizLList at hx hy
 have hm : maxLen = 9223372036854775807 := rfl
 refine Ctr.bd mixed func138 rfl ?_
 refine evl ?_
 refine ck e175 (c175 x.Rows y.Rows (by omega) (by omega)) rfl ?_
 refine evl ?_
 constructor <;> intro h
 ·refine Fin.nt results138 [] ?_ ?_ ?_ <;> try trivial
  (refine rsl ?_; try exact .intro)
  simp_all [LList.eq_iff]
 have eRows := h; clear h
 refine Fin.nt results138 [] ?_ ?_ ?_ <;> try trivial
 (refine rsl ?_; try exact .intro)
 simp_all [LList.eq_iff]
theorem c58 (l : List LList) (hl : l.length <= maxLen) (hk : ∀ y ∈ l, y.lok) (left : Int) (h0 : 0 <= left) (h1 : left <= 1048576) : Ctr prog 58 [.one (.dat (.sl 1 (l.map encLList))), .one (.dat (.int .i64 left))] [] (.one (.dat (.int .i64 (szL left (sizLListS l))))) [] := by
 have hw := szL_wrap h0 h1 hl
 unfold sizLListS
 refine Ctr.bd mixed func58 rfl ?_
 refine sv0 ?_
 constructor <;> intro h
 ·refine Fin.nt results58 [] ?_ ?_ ?_ <;> try trivial
  (refine rsl ?_; try exact .intro)
  exact szL_bad (left := left) (a := l.length) (by rw [szL_raw]; exact h) (by omega)
 have a0 : decide (szL left l.length < 0) = false := by rw [szL_raw]; exact h
 have e0 : left - (l.length : Int) = szL left (l.length + ((l.take 0).map sizLList).sum) := by
  have := (szL_le h1 a0).2.1; simp; exact this.symm
 rw [e0]
 refine LoopK_intro (fun n s => ∃ i : Nat, i <= l.length /\ n = l.length - i /\ decide (szL left (l.length + ((l.take i).map sizLList).sum) < 0) = false /\ s = mkSt [(5, .one (.dat (.int .i64 i))), (1, .one (.dat (.int .i64 (szL left (l.length + ((l.take i).map sizLList).sum))))), (0, .one (.dat (.sl 1 (l.map encLList))))] []) l.length _
  (Ent.wk []) ⟨0, by omega, by omega, by simpa using a0, rfl⟩ ?_
 rintro n s ⟨i, hi, rfl, ht, rfl⟩ K hK
 rcases Nat.lt_or_ge i l.length with hlt | hge
 ·have hdi : decide ((i : Int) < l.length) = true := by simpa using hlt
  have hwi := wrap_succ hlt hl
  have hs := sum_take_succ sizLList hlt
  have hs2 := sum_take_le sizLList l (i + 1)
  obtain ⟨_, _, g, u⟩ := szL_le h1 ht
  simp (maxSteps := 2000000) only [go_sem, seval, hdi, hwi, getD_map hlt, encLList]
  refine ⟨⟨by omega, by omega⟩, hlt, ?_⟩
  refine CallK_pure e116 (c116 l[i] (hk _ (List.getElem_mem hlt)) _ g u) rfl ?_
  refine sv4 ?_
  rw [Nat.add_assoc, <- hs]
  constructor <;> intro h
  ·apply hK
   refine evl ?_
   refine Fin.nt results58 [] ?_ ?_ ?_ <;> try trivial
   (refine rsl ?_; try exact .intro)
   exact szL_bad h (by omega)
  ·apply hK
   exact ⟨l.length - (i + 1), _, by omega, Ent.wk [], i + 1, by omega, rfl, h, rfl⟩
 ·have hge' : i = l.length := by omega
  subst hge'
  have hdi : decide ((l.length : Int) < l.length) = false := by simp
  refine sv3 ?_
  apply hK
  refine evl ?_
  refine Fin.nt results58 [] ?_ ?_ ?_ <;> try trivial
  all_goals try ((refine rsl ?_; try exact .intro))
  all_goals simp
theorem c66 (l : List LList) (h : sizLListS l <= 1048576) : Ctr prog 66 [.one (.dat (.sl 1 (l.map encLList)))] [] (.one (.own 0)) [.vec 1 true (l.map encLList)] := by
 have hl : l.length <= 1048576 := by unfold sizLListS at h; omega
 refine Ctr.bd mixed func66 rfl ?_
 refine evl ?_
 refine ⟨by omega, ?_⟩
 refine LoopK_intro (fun n s => ∃ i : Nat, i <= l.length /\ n = l.length - i /\ s = mkSt [(4, .one (.dat (.int .i64 i))), (3, .one (.own 0)), (0, .one (.dat (.sl 1 (l.map encLList))))]
   [.vec 1 true ((l.take i).map encLList ++ List.replicate (l.length - i) [.sl 2 []])]) l.length _
  (Ent.wk [0]) ⟨0, by omega, by omega, rfl⟩ ?_
 rintro n s ⟨i, hi, rfl, rfl⟩ K hK
 rcases Nat.lt_or_ge i l.length with hlt | hge
 ·have hdi : decide ((i : Int) < l.length) = true := by simpa using hlt
  simp (maxSteps := 2000000) only [go_sem, seval, hdi, getD_map hlt, encLList, D.flat, wrap_succ hlt (le20 hl)]
  first | refine ⟨⟨by omega, by omega⟩, hlt, ?_⟩ | refine ⟨by omega, hlt, ?_⟩
  refine CallK_pure e125 (c125 l[i] (by have := sum_get sizLList hlt; unfold sizLListS at h; omega)) rfl ?_
  simp (maxSteps := 2000000) only [go_sem, seval, encLList, D.flat, wrap_succ hlt (le20 hl)]
  repeat' ((with_reducible show _ /\ _); apply And.intro)
  all_goals first
   | (apply hK
      refine ⟨l.length - (i + 1), _, by omega, Ent.weak (ids := [0]) (by simp) rfl (by simp) ?_ ?_ ?_, i + 1, by omega, rfl, rfl⟩
      ·simp only [objsLe, St.obj, find, AObj.renF, if_true, Option.getD_some, List.getD_cons_zero, and_true]
       rw [<- take_set encLList l _ hlt]
       exact ⟨by simp, Or.inr rfl⟩
      ·simp [objsLe, envLe, find, St.obj, AObj.renF, AV.renF, AV.renF1, Leaf.renF, LowAll, AV.Low, AV.Low1, Leaf.Low, AObj.Low, Ptr.renF, Ptr.Low]
      ·simp [objsLe, envLe, find, St.obj, AObj.renF, AV.renF, AV.renF1, Leaf.renF, LowAll, AV.Low, AV.Low1, Leaf.Low, AObj.Low, Ptr.renF, Ptr.Low])
   | omega
   | decide
   | (simp; done)
   | (simp; omega)
   | trivial
 ·have hge' : i = l.length := by omega
  subst hge'
  have hdi : decide ((l.length : Int) < l.length) = false := by simp
  refine sv3 ?_
  apply hK
  refine evl ?_
  refine Fin.nt results66 [0] ?_ ?_ ?_ <;> try trivial
  all_goals simp [objsLe, St.obj, find, AObj.renF]
theorem c77 (l l' : List LList) (h0 : sizLListS l <= 1048576) (h0' : sizLListS l' <= 1048576) : Ctr prog 77 [.one (.dat (.sl 1 (l.map encLList))), .one (.dat (.sl 1 (l'.map encLList)))] [] (.one (.dat (.bool (decide (l = l'))))) [] := by
 have hl : l.length <= maxLen := (lokLListS (by omega)).1
 have hl' : l'.length <= maxLen := (lokLListS (by omega)).1
 refine Ctr.bd mixed func77 rfl ?_
 refine evl ?_
 constructor <;> intro h
 ·have hne : l.length ≠ l'.length := by simp at h; omega
  refine Fin.nt results77 [] ?_ ?_ ?_ <;> try trivial
  (refine rsl ?_; try exact .intro)
  symm; rw [decide_eq_false_iff_not]
  intro e; exact hne (by rw [e])
 have hlen : l.length = l'.length := by simp at h; omega
 refine LoopK_intro (fun n s => ∃ i : Nat, i <= l.length /\ n = l.length - i /\ l.take i = l'.take i /\ s = mkSt [(5, .one (.dat (.int .i64 i))), (1, .one (.dat (.sl 1 (l'.map encLList)))), (0, .one (.dat (.sl 1 (l.map encLList))))] []) l.length _
  (Ent.wk []) ⟨0, by omega, by omega, rfl, rfl⟩ ?_
 rintro n s ⟨i, hi, rfl, ht, rfl⟩ K hK
 rcases Nat.lt_or_ge i l.length with hlt | hge
 ·have hdi : decide ((i : Int) < l.length) = true := by simpa using hlt
  have hlt' : i < l'.length := by omega
  simp (maxSteps := 2000000) only [go_sem, seval, hdi, wrap_succ hlt hl, getD_map hlt, getD_map hlt', encLList]
  refine ⟨⟨by omega, by omega⟩, hlt, ⟨by omega, by omega⟩, hlt', ?_⟩
  first
   | refine CCallK_intro e138 (fun _ => ⟨trivial, c138 l[i] l'[i] (by have := sum_get sizLList hlt; unfold sizLListS at h0; omega) (by have := sum_get sizLList hlt'; unfold sizLListS at h0'; omega)⟩) rfl rfl ?_
   | refine Or.inl (CCallK_intro e138 (fun _ => ⟨trivial, c138 l[i] l'[i] (by have := sum_get sizLList hlt; unfold sizLListS at h0; omega) (by have := sum_get sizLList hlt'; unfold sizLListS at h0'; omega)⟩) rfl rfl ?_)
  refine sv1 ?_
  constructor <;> intro h
  ·apply hK
   refine evl ?_
   refine Fin.nt results77 [] ?_ ?_ ?_ <;> try trivial
   (refine rsl ?_; try exact .intro)
   symm; rw [decide_eq_false_iff_not]
   rintro rfl; simp at h
  ·apply hK
   have he : l[i] = l'[i] := by simpa using h
   exact ⟨l.length - (i + 1), _, by omega, Ent.wk [], i + 1, by omega, rfl, by rw [List.take_succ_eq_append_getElem hlt, List.take_succ_eq_append_getElem hlt', ht, he], rfl⟩
 ·have hge' : i = l.length := by omega
  subst hge'
  have hdi : decide ((l.length : Int) < l.length) = false := by simp
  refine sv3 ?_
  apply hK
  refine evl ?_
  refine Fin.nt results77 [] ?_ ?_ ?_ <;> try trivial
  (refine rsl ?_; try exact .intro)
  symm; rw [decide_eq_true_iff]
  rw [List.take_of_length_le (Nat.le_refl _), List.take_of_length_le (by omega)] at ht
  exact ht
structure Base where
 Mem : Mem
 Clock : Clock
 Limbo : List LList
 Haz : List Int
 deriving DecidableEq
def encBase (x : Base) : List D := [.sl 1 (x.Mem.Heap.Bytes.map encI), .sl 1 (x.Mem.Heap.Class.map encI), .sl 1 (x.Mem.Lists.Global.map encSList), .sl 1 (x.Mem.Lists.Own.map encSList), .int .i64 x.Clock.Epoch, .sl 4 (x.Clock.Pins.map encPin), .sl 1 (x.Limbo.map encLList), .sl 1 (x.Haz.map encI)]
def Base.wf (x : Base) : Prop := x.Mem.wf /\ x.Clock.wf /\ (∀ y ∈ x.Limbo, y.wf) /\ (∀ y ∈ x.Haz, (Lit.int .i64 y).wf = true) /\ True
theorem Base.eq_iff (x y : Base) : x = y ↔ x.Mem = y.Mem /\ x.Clock = y.Clock /\ x.Limbo = y.Limbo /\ x.Haz = y.Haz := by cases x; cases y; simp
def Base.lok (x : Base) : Prop := x.Mem.lok /\ x.Clock.lok /\ x.Limbo.length <= maxLen /\ (∀ y ∈ x.Limbo, y.lok) /\ x.Haz.length <= maxLen /\ True
def sizBase (x : Base) : Nat := sizMem x.Mem + sizClock x.Clock + sizLListS x.Limbo + x.Haz.length
def sizBaseS (l : List Base) : Nat := l.length + (l.map sizBase).sum
def zeroBase : Base := ⟨zeroMem, zeroClock, [], []⟩
theorem decBase (n : Nat) (ds : List D) (h : WT prog n 35 ds) : ∃ x : Base, ds = encBase x /\ x.wf /\ x.lok := by
 cases n with
 | zero => exact h.elim
 | succ n =>
  unfold WT at h
  rw [underlying35] at h
  simp only [List.toList_toArray, List.map_cons, List.map_nil, WTs] at h
  obtain ⟨_, _, rfl, h0, ⟨_, _, rfl, h1, ⟨_, _, rfl, h2, ⟨_, _, rfl, h3, rfl⟩⟩⟩⟩ := h
  obtain ⟨x0, rfl, w0, k0⟩ := decMem _ _ h0
  obtain ⟨x1, rfl, w1, k1⟩ := decClock _ _ h1
  obtain ⟨x2, rfl, c2, w2⟩ := decSl (enc := encLList) (q := fun x => x.wf /\ x.lok) underlying33 tc_185 decLList h2
  obtain ⟨x3, rfl, c3, w3⟩ := decSl (enc := encI) (q := fun x => (Lit.int .i64 x).wf = true) underlying22 tc_3 (fun _ _ h => decInt underlying3 h) h3
  exact ⟨⟨x0, x1, x2, x3⟩, rfl, ⟨w0, w1, fun y hy => (w2 y hy).1, w3, trivial⟩, ⟨k0, k1, c2, fun y hy => (w2 y hy).2, c3, trivial⟩⟩
theorem c21 (x : Base) (hk : x.lok) (left : Int) (h0 : 0 <= left) (h1 : left <= 1048576) : Ctr prog 21 [.agg ((encBase x).map .dat), .one (.dat (.int .i64 left))] [] (.one (.dat (.int .i64 (szL left (sizBase x))))) [] := by
 simp only [encBase, List.map_cons, List.map_nil]
 unfold sizBase
 refine Ctr.bd mixed func21 rfl ?_
 refine evl ?_
 obtain ⟨kMem, kClock, kLimbo, qLimbo, kHaz, _⟩ := hk
 refine CallK_pure e56 (c56 x.Mem kMem left h0 h1) rfl ?_
 refine evl ?_
 constructor <;> intro h
 ·refine Fin.nt results21 [] ?_ ?_ ?_ <;> try trivial
  (refine rsl ?_; try exact .intro)
  try simp only [List.length_map] at h
  exact szL_bad (h) (by omega)
 try simp only [List.length_map] at h
 have a0 : decide (szL left (sizMem x.Mem) < 0) = false := h
 obtain ⟨_, _, g0, u0⟩ := szL_le h1 a0
 try simp only [List.length_map]
 refine CallK_pure e57 (c57 x.Clock kClock (szL left (sizMem x.Mem)) g0 u0) rfl ?_
 refine evl ?_
 constructor <;> intro h
 ·refine Fin.nt results21 [] ?_ ?_ ?_ <;> try trivial
  (refine rsl ?_; try exact .intro)
  try simp only [List.length_map] at h
  exact szL_bad (szL_at h0 a0 ▸ h) (by omega)
 try simp only [List.length_map] at h
 have a1 : decide (szL left (sizMem x.Mem + sizClock x.Clock) < 0) = false := szL_at h0 a0 ▸ h
 obtain ⟨_, _, g1, u1⟩ := szL_le h1 a1
 try simp only [List.length_map]
 rw [szL_at h0 a0]
 refine CallK_pure e58 (c58 x.Limbo kLimbo qLimbo (szL left (sizMem x.Mem + sizClock x.Clock)) g1 u1) rfl ?_
 refine evl ?_
 constructor <;> intro h
 ·refine Fin.nt results21 [] ?_ ?_ ?_ <;> try trivial
  (refine rsl ?_; try exact .intro)
  try simp only [List.length_map] at h
  exact szL_bad (szL_at h0 a1 ▸ h) (by omega)
 try simp only [List.length_map] at h
 have a2 : decide (szL left (sizMem x.Mem + sizClock x.Clock + sizLListS x.Limbo) < 0) = false := szL_at h0 a1 ▸ h
 obtain ⟨_, _, g2, u2⟩ := szL_le h1 a2
 try simp only [List.length_map]
 rw [szL_at h0 a1]
 refine CallK_pure e59 (c59 (x.Haz.map encI) (szL left (sizMem x.Mem + sizClock x.Clock + sizLListS x.Limbo)) g2 u2 (by simpa using kHaz)) rfl ?_
 refine evl ?_
 constructor <;> intro h
 ·refine Fin.nt results21 [] ?_ ?_ ?_ <;> try trivial
  (refine rsl ?_; try exact .intro)
  try simp only [List.length_map] at h
  exact szL_bad (szL_at h0 a2 ▸ h) (by omega)
 try simp only [List.length_map] at h
 have a3 : decide (szL left (sizMem x.Mem + sizClock x.Clock + sizLListS x.Limbo + x.Haz.length) < 0) = false := szL_at h0 a2 ▸ h
 refine Fin.nt results21 [] ?_ ?_ ?_ <;> try trivial
 all_goals try ((refine rsl ?_; try exact .intro))
 all_goals try simp only [List.length_map]
 all_goals try exact szL_at h0 a2
theorem c26 (x : Base) (h : sizBase x <= 1048576) : Ctr prog 26 [.agg ((encBase x).map .dat)] [] (.agg [.own 0, .own 1, .own 2, .own 3, .dat (.int .i64 x.Clock.Epoch), .own 4, .own 5, .own 6]) [.vec 1 true (x.Mem.Heap.Bytes.map encI), .vec 1 true (x.Mem.Heap.Class.map encI), .vec 1 true (x.Mem.Lists.Global.map encSList), .vec 1 true (x.Mem.Lists.Own.map encSList), .vec 4 true (x.Clock.Pins.map encPin), .vec 1 true (x.Limbo.map encLList), .vec 1 true (x.Haz.map encI)] := by
 simp only [encBase, List.map_cons, List.map_nil]
 unfold sizBase at h
 refine Ctr.bd mixed func26 rfl ?_
 refine evl ?_
 refine CallK_pure e64 (c64 x.Mem (by omega)) rfl ?_
 refine evl ?_
 refine CallK_pure e65 (c65 x.Clock (by omega)) rfl ?_
 refine evl ?_
 refine CallK_pure e66 (c66 x.Limbo (by omega)) rfl ?_
 refine evl ?_
 refine CallK_pure e67 (c67 x.Haz (by omega)) rfl ?_
 refine evl ?_
 first | ((refine Fin.nt results26 [3, 4, 5, 6, 7, 8, 9] ?_ ?_ ?_ <;> try trivial) <;> (first | rfl | exact entd); done) | ((refine Fin.nt results26 [2, 3, 4, 5, 6, 7, 8] ?_ ?_ ?_ <;> try trivial) <;> (first | rfl | exact entd); done) | ((refine Fin.nt results26 [1, 2, 3, 4, 5, 6, 7] ?_ ?_ ?_ <;> try trivial) <;> (first | rfl | exact entd); done) | ((refine Fin.nt results26 [0, 1, 2, 3, 4, 5, 6] ?_ ?_ ?_ <;> try trivial) <;> (first | rfl | exact entd); done) | ((refine Fin.nt results26 [4, 5, 6, 7, 8, 9, 10] ?_ ?_ ?_ <;> try trivial) <;> (first | rfl | exact entd); done) | ((refine Fin.nt results26 [5, 6, 7, 8, 9, 10, 11] ?_ ?_ ?_ <;> try trivial) <;> (first | rfl | exact entd); done)
theorem c32 (x y : Base) (hx : sizBase x <= 1048576) (hy : sizBase y <= 1048576) : Ctr prog 32 [.agg ((encBase x).map .dat), .agg ((encBase y).map .dat)] [] (.one (.dat (.bool (decide (x = y))))) [] := by
 simp only [encBase, List.map_cons, List.map_nil]
 unfold sizBase at hx hy
 have hm : maxLen = 9223372036854775807 := rfl
 refine Ctr.bd mixed func32 rfl ?_
 refine evl ?_
 refine ck e75 (c75 x.Mem y.Mem (by omega) (by omega)) rfl ?_
 refine evl ?_
 constructor <;> intro h
 ·refine Fin.nt results32 [] ?_ ?_ ?_ <;> try trivial
  (refine rsl ?_; try exact .intro)
  simp_all [Base.eq_iff]
 have eMem := h; clear h
 refine ck e76 (c76 x.Clock y.Clock (by omega) (by omega)) rfl ?_
 refine evl ?_
 constructor <;> intro h
 ·refine Fin.nt results32 [] ?_ ?_ ?_ <;> try trivial
  (refine rsl ?_; try exact .intro)
  simp_all [Base.eq_iff]
 have eClock := h; clear h
 refine ck e77 (c77 x.Limbo y.Limbo (by omega) (by omega)) rfl ?_
 refine evl ?_
 constructor <;> intro h
 ·refine Fin.nt results32 [] ?_ ?_ ?_ <;> try trivial
  (refine rsl ?_; try exact .intro)
  simp_all [Base.eq_iff]
 have eLimbo := h; clear h
 refine ck e78 (c78 x.Haz y.Haz (by omega) (by omega)) rfl ?_
 refine evl ?_
 constructor <;> intro h
 ·refine Fin.nt results32 [] ?_ ?_ ?_ <;> try trivial
  (refine rsl ?_; try exact .intro)
  simp_all [Base.eq_iff]
 have eHaz := h; clear h
 refine Fin.nt results32 [] ?_ ?_ ?_ <;> try trivial
 (refine rsl ?_; try exact .intro)
 simp_all [Base.eq_iff]
structure Sub where
 Kind : Int
 A : Int
 Pc : Int
 E : Int
 Row : Int
 B : Int
 H : Int
 Out : Int
 Code : Int
 Done : Bool
 deriving DecidableEq
def encSub (x : Sub) : List D := [.int .i64 x.Kind, .int .i64 x.A, .int .i64 x.Pc, .int .i64 x.E, .int .i64 x.Row, .int .i64 x.B, .int .i64 x.H, .int .i64 x.Out, .int .i64 x.Code, .bool x.Done]
def Sub.wf (x : Sub) : Prop := (Lit.int .i64 x.Kind).wf = true /\ (Lit.int .i64 x.A).wf = true /\ (Lit.int .i64 x.Pc).wf = true /\ (Lit.int .i64 x.E).wf = true /\ (Lit.int .i64 x.Row).wf = true /\ (Lit.int .i64 x.B).wf = true /\ (Lit.int .i64 x.H).wf = true /\ (Lit.int .i64 x.Out).wf = true /\ (Lit.int .i64 x.Code).wf = true /\ True
theorem Sub.eq_iff (x y : Sub) : x = y ↔ x.Kind = y.Kind /\ x.A = y.A /\ x.Pc = y.Pc /\ x.E = y.E /\ x.Row = y.Row /\ x.B = y.B /\ x.H = y.H /\ x.Out = y.Out /\ x.Code = y.Code /\ x.Done = y.Done := by cases x; cases y; simp
def Sub.lok (x : Sub) : Prop := True
def zeroSub : Sub := ⟨0, 0, 0, 0, 0, 0, 0, 0, 0, false⟩
theorem decSub (n : Nat) (ds : List D) (h : WT prog n 121 ds) : ∃ x : Sub, ds = encSub x /\ x.wf /\ x.lok := by
 cases n with
 | zero => exact h.elim
 | succ n =>
  unfold WT at h
  rw [underlying121] at h
  simp only [List.toList_toArray, List.map_cons, List.map_nil, WTs] at h
  obtain ⟨_, _, rfl, h0, ⟨_, _, rfl, h1, ⟨_, _, rfl, h2, ⟨_, _, rfl, h3, ⟨_, _, rfl, h4, ⟨_, _, rfl, h5, ⟨_, _, rfl, h6, ⟨_, _, rfl, h7, ⟨_, _, rfl, h8, ⟨_, _, rfl, h9, rfl⟩⟩⟩⟩⟩⟩⟩⟩⟩⟩ := h
  obtain ⟨x0, rfl, w0⟩ := decInt underlying3 h0
  obtain ⟨x1, rfl, w1⟩ := decInt underlying3 h1
  obtain ⟨x2, rfl, w2⟩ := decInt underlying3 h2
  obtain ⟨x3, rfl, w3⟩ := decInt underlying3 h3
  obtain ⟨x4, rfl, w4⟩ := decInt underlying3 h4
  obtain ⟨x5, rfl, w5⟩ := decInt underlying3 h5
  obtain ⟨x6, rfl, w6⟩ := decInt underlying3 h6
  obtain ⟨x7, rfl, w7⟩ := decInt underlying3 h7
  obtain ⟨x8, rfl, w8⟩ := decInt underlying3 h8
  obtain ⟨x9, rfl⟩ := decBool underlying4 h9
  exact ⟨⟨x0, x1, x2, x3, x4, x5, x6, x7, x8, x9⟩, rfl, ⟨w0, w1, w2, w3, w4, w5, w6, w7, w8, trivial⟩, trivial⟩
theorem c128 (x : Sub) : Ctr prog 128 [.agg ((encSub x).map .dat)] [] (.agg [.dat (.int .i64 x.Kind), .dat (.int .i64 x.A), .dat (.int .i64 x.Pc), .dat (.int .i64 x.E), .dat (.int .i64 x.Row), .dat (.int .i64 x.B), .dat (.int .i64 x.H), .dat (.int .i64 x.Out), .dat (.int .i64 x.Code), .dat (.bool x.Done)]) [] := by
 simp only [encSub, List.map_cons, List.map_nil]
 refine Ctr.bd mixed func128 rfl ?_
 refine evl ?_
 first | ((refine Fin.nt results128 [] ?_ ?_ ?_ <;> try trivial) <;> (first | rfl | exact entd); done) | ((refine Fin.nt results128 [] ?_ ?_ ?_ <;> try trivial) <;> (first | rfl | exact entd); done) | ((refine Fin.nt results128 [] ?_ ?_ ?_ <;> try trivial) <;> (first | rfl | exact entd); done) | ((refine Fin.nt results128 [] ?_ ?_ ?_ <;> try trivial) <;> (first | rfl | exact entd); done) | ((refine Fin.nt results128 [] ?_ ?_ ?_ <;> try trivial) <;> (first | rfl | exact entd); done) | ((refine Fin.nt results128 [] ?_ ?_ ?_ <;> try trivial) <;> (first | rfl | exact entd); done)
theorem c141 (x y : Sub) : Ctr prog 141 [.agg ((encSub x).map .dat), .agg ((encSub y).map .dat)] [] (.one (.dat (.bool (decide (x = y))))) [] := by
 simp only [encSub, List.map_cons, List.map_nil]
 refine Ctr.bd mixed func141 rfl ?_
 refine evl ?_
 constructor <;> intro h
 ·refine Fin.nt results141 [] ?_ ?_ ?_ <;> try trivial
  (refine rsl ?_; try exact .intro)
  simp_all [Sub.eq_iff]
 have eKind := h; clear h
 constructor <;> intro h
 ·refine Fin.nt results141 [] ?_ ?_ ?_ <;> try trivial
  (refine rsl ?_; try exact .intro)
  simp_all [Sub.eq_iff]
 have eA := h; clear h
 constructor <;> intro h
 ·refine Fin.nt results141 [] ?_ ?_ ?_ <;> try trivial
  (refine rsl ?_; try exact .intro)
  simp_all [Sub.eq_iff]
 have ePc := h; clear h
 constructor <;> intro h
 ·refine Fin.nt results141 [] ?_ ?_ ?_ <;> try trivial
  (refine rsl ?_; try exact .intro)
  simp_all [Sub.eq_iff]
 have eE := h; clear h
 constructor <;> intro h
 ·refine Fin.nt results141 [] ?_ ?_ ?_ <;> try trivial
  (refine rsl ?_; try exact .intro)
  simp_all [Sub.eq_iff]
 have eRow := h; clear h
 constructor <;> intro h
 ·refine Fin.nt results141 [] ?_ ?_ ?_ <;> try trivial
  (refine rsl ?_; try exact .intro)
  simp_all [Sub.eq_iff]
 have eB := h; clear h
 constructor <;> intro h
 ·refine Fin.nt results141 [] ?_ ?_ ?_ <;> try trivial
  (refine rsl ?_; try exact .intro)
  simp_all [Sub.eq_iff]
 have eH := h; clear h
 constructor <;> intro h
 ·refine Fin.nt results141 [] ?_ ?_ ?_ <;> try trivial
  (refine rsl ?_; try exact .intro)
  simp_all [Sub.eq_iff]
 have eOut := h; clear h
 constructor <;> intro h
 ·refine Fin.nt results141 [] ?_ ?_ ?_ <;> try trivial
  (refine rsl ?_; try exact .intro)
  simp_all [Sub.eq_iff]
 have eCode := h; clear h
 constructor <;> intro h
 ·refine Fin.nt results141 [] ?_ ?_ ?_ <;> try trivial
  (refine rsl ?_; try exact .intro)
  simp_all [Sub.eq_iff]
 have eDone := h; clear h
 refine Fin.nt results141 [] ?_ ?_ ?_ <;> try trivial
 (refine rsl ?_; try exact .intro)
 simp_all [Sub.eq_iff]
def Node.lok (x : Node) : Prop := True
def zeroNode : Node := ⟨0, 0, 0⟩
theorem decNode (n : Nat) (ds : List D) (h : WT prog n 119 ds) : ∃ x : Node, ds = encNode x /\ x.wf /\ x.lok := by
 cases n with
 | zero => exact h.elim
 | succ n =>
  unfold WT at h
  rw [underlying119] at h
  simp only [List.toList_toArray, List.map_cons, List.map_nil, WTs] at h
  obtain ⟨_, _, rfl, h0, ⟨_, _, rfl, h1, ⟨_, _, rfl, h2, rfl⟩⟩⟩ := h
  obtain ⟨x0, rfl, w0⟩ := decInt underlying3 h0
  obtain ⟨x1, rfl, w1⟩ := decInt underlying3 h1
  obtain ⟨x2, rfl, w2⟩ := decInt underlying3 h2
  exact ⟨⟨x0, x1, x2⟩, rfl, ⟨w0, w1, w2, trivial⟩, trivial⟩
def Bkt.lok (x : Bkt) : Prop := True
def zeroBkt : Bkt := ⟨0, 0, 0⟩
theorem decBkt (n : Nat) (ds : List D) (h : WT prog n 139 ds) : ∃ x : Bkt, ds = encBkt x /\ x.wf /\ x.lok := by
 cases n with
 | zero => exact h.elim
 | succ n =>
  unfold WT at h
  rw [underlying139] at h
  simp only [List.toList_toArray, List.map_cons, List.map_nil, WTs] at h
  obtain ⟨_, _, rfl, h0, ⟨_, _, rfl, h1, ⟨_, _, rfl, h2, rfl⟩⟩⟩ := h
  obtain ⟨x0, rfl, w0⟩ := decInt underlying3 h0
  obtain ⟨x1, rfl, w1⟩ := decInt underlying3 h1
  obtain ⟨x2, rfl, w2⟩ := decInt underlying3 h2
  exact ⟨⟨x0, x1, x2⟩, rfl, ⟨w0, w1, w2, trivial⟩, trivial⟩
def Cmd.lok (x : Cmd) : Prop := True
def zeroCmd : Cmd := ⟨0, 0, 0⟩
theorem decCmd (n : Nat) (ds : List D) (h : WT prog n 246 ds) : ∃ x : Cmd, ds = encCmd x /\ x.wf /\ x.lok := by
 cases n with
 | zero => exact h.elim
 | succ n =>
  unfold WT at h
  rw [underlying246] at h
  simp only [List.toList_toArray, List.map_cons, List.map_nil, WTs] at h
  obtain ⟨_, _, rfl, h0, ⟨_, _, rfl, h1, ⟨_, _, rfl, h2, rfl⟩⟩⟩ := h
  obtain ⟨x0, rfl, w0⟩ := decInt underlying3 h0
  obtain ⟨x1, rfl, w1⟩ := decInt underlying3 h1
  obtain ⟨x2, rfl, w2⟩ := decInt underlying3 h2
  exact ⟨⟨x0, x1, x2⟩, rfl, ⟨w0, w1, w2, trivial⟩, trivial⟩
def Seen.lok (x : Seen) : Prop := True
def zeroSeen : Seen := ⟨0, 0⟩
theorem decSeen (n : Nat) (ds : List D) (h : WT prog n 240 ds) : ∃ x : Seen, ds = encSeen x /\ x.wf /\ x.lok := by
 cases n with
 | zero => exact h.elim
 | succ n =>
  unfold WT at h
  rw [underlying240] at h
  simp only [List.toList_toArray, List.map_cons, List.map_nil, WTs] at h
  obtain ⟨_, _, rfl, h0, ⟨_, _, rfl, h1, rfl⟩⟩ := h
  obtain ⟨x0, rfl, w0⟩ := decInt underlying3 h0
  obtain ⟨x1, rfl, w1⟩ := decInt underlying3 h1
  exact ⟨⟨x0, x1⟩, rfl, ⟨w0, w1, trivial⟩, trivial⟩
def Write.lok (x : Write) : Prop := True
def zeroWrite : Write := ⟨0, false, 0⟩
theorem decWrite (n : Nat) (ds : List D) (h : WT prog n 242 ds) : ∃ x : Write, ds = encWrite x /\ x.wf /\ x.lok := by
 cases n with
 | zero => exact h.elim
 | succ n =>
  unfold WT at h
  rw [underlying242] at h
  simp only [List.toList_toArray, List.map_cons, List.map_nil, WTs] at h
  obtain ⟨_, _, rfl, h0, ⟨_, _, rfl, h1, ⟨_, _, rfl, h2, rfl⟩⟩⟩ := h
  obtain ⟨x0, rfl, w0⟩ := decInt underlying3 h0
  obtain ⟨x1, rfl⟩ := decBool underlying4 h1
  obtain ⟨x2, rfl, w2⟩ := decInt underlying3 h2
  exact ⟨⟨x0, x1, x2⟩, rfl, ⟨w0, w2, trivial⟩, trivial⟩
structure Batch where
 Collect : Bool
 Cmds : List Cmd
 deriving DecidableEq
def encBatch (x : Batch) : List D := [.bool x.Collect, .sl 3 (x.Cmds.map encCmd)]
def Batch.wf (x : Batch) : Prop := (∀ y ∈ x.Cmds, y.wf) /\ True
theorem Batch.eq_iff (x y : Batch) : x = y ↔ x.Collect = y.Collect /\ x.Cmds = y.Cmds := by cases x; cases y; simp
def Batch.lok (x : Batch) : Prop := x.Cmds.length <= maxLen /\ True
def sizBatch (x : Batch) : Nat := x.Cmds.length
def sizBatchS (l : List Batch) : Nat := l.length + (l.map sizBatch).sum
def zeroBatch : Batch := ⟨false, []⟩
theorem decBatch (n : Nat) (ds : List D) (h : WT prog n 117 ds) : ∃ x : Batch, ds = encBatch x /\ x.wf /\ x.lok := by
 cases n with
 | zero => exact h.elim
 | succ n =>
  unfold WT at h
  rw [underlying117] at h
  simp only [List.toList_toArray, List.map_cons, List.map_nil, WTs] at h
  obtain ⟨_, _, rfl, h0, ⟨_, _, rfl, h1, rfl⟩⟩ := h
  obtain ⟨x0, rfl⟩ := decBool underlying4 h0
  obtain ⟨x1, rfl, c1, w1⟩ := decSl (enc := encCmd) (q := fun x => x.wf /\ x.lok) underlying115 tc_246 decCmd h1
  exact ⟨⟨x0, x1⟩, rfl, ⟨fun y hy => (w1 y hy).1, trivial⟩, ⟨c1, trivial⟩⟩
theorem Batch.lok_of {x : Batch} (h : sizBatch x <= 16777216) : x.lok := by
 have hm : maxLen = 9223372036854775807 := rfl
 unfold sizBatch at h
 exact ⟨by omega, trivial⟩
theorem lokBatchS {l : List Batch} (h : sizBatchS l <= 16777216) : l.length <= maxLen /\ ∀ y ∈ l, y.lok := by
 have hm : maxLen = 9223372036854775807 := rfl
 unfold sizBatchS at h
 exact ⟨by omega, fun y hy => Batch.lok_of (by have := sum_mem sizBatch hy; omega)⟩
theorem c117 (x : Batch) (hk : x.lok) (left : Int) (h0 : 0 <= left) (h1 : left <= 1048576) : Ctr prog 117 [.agg ((encBatch x).map .dat), .one (.dat (.int .i64 left))] [] (.one (.dat (.int .i64 (szL left (sizBatch x))))) [] := by
 simp only [encBatch, List.map_cons, List.map_nil]
 unfold sizBatch
 refine Ctr.bd mixed func117 rfl ?_
 refine evl ?_
 obtain ⟨kCmds, _⟩ := hk
 refine CallK_pure e121 (c121 (x.Cmds.map encCmd) left h0 h1 (by simpa using kCmds)) rfl ?_
 refine evl ?_
 constructor <;> intro h
 ·refine Fin.nt results117 [] ?_ ?_ ?_ <;> try trivial
  (refine rsl ?_; try exact .intro)
  try simp only [List.length_map] at h
  exact szL_bad (h) (by omega)
 try simp only [List.length_map] at h
 have a0 : decide (szL left (x.Cmds.length) < 0) = false := h
 refine Fin.nt results117 [] ?_ ?_ ?_ <;> try trivial
 all_goals try ((refine rsl ?_; try exact .intro))
 all_goals try simp only [List.length_map]
theorem c126 (x : Batch) (h : sizBatch x <= 1048576) : Ctr prog 126 [.agg ((encBatch x).map .dat)] [] (.agg [.dat (.bool x.Collect), .own 0]) [.vec 3 true (x.Cmds.map encCmd)] := by
 simp only [encBatch, List.map_cons, List.map_nil]
 unfold sizBatch at h
 refine Ctr.bd mixed func126 rfl ?_
 refine evl ?_
 refine CallK_pure e132 (c132 x.Cmds (by omega)) rfl ?_
 refine evl ?_
 first | ((refine Fin.nt results126 [3] ?_ ?_ ?_ <;> try trivial) <;> (first | rfl | exact entd); done) | ((refine Fin.nt results126 [2] ?_ ?_ ?_ <;> try trivial) <;> (first | rfl | exact entd); done) | ((refine Fin.nt results126 [1] ?_ ?_ ?_ <;> try trivial) <;> (first | rfl | exact entd); done) | ((refine Fin.nt results126 [0] ?_ ?_ ?_ <;> try trivial) <;> (first | rfl | exact entd); done) | ((refine Fin.nt results126 [4] ?_ ?_ ?_ <;> try trivial) <;> (first | rfl | exact entd); done) | ((refine Fin.nt results126 [5] ?_ ?_ ?_ <;> try trivial) <;> (first | rfl | exact entd); done)
theorem c139 (x y : Batch) (hx : sizBatch x <= 1048576) (hy : sizBatch y <= 1048576) : Ctr prog 139 [.agg ((encBatch x).map .dat), .agg ((encBatch y).map .dat)] [] (.one (.dat (.bool (decide (x = y))))) [] := by
 simp only [encBatch, List.map_cons, List.map_nil]
 unfold sizBatch at hx hy
 have hm : maxLen = 9223372036854775807 := rfl
 refine Ctr.bd mixed func139 rfl ?_
 refine evl ?_
 constructor <;> intro h
 ·refine Fin.nt results139 [] ?_ ?_ ?_ <;> try trivial
  (refine rsl ?_; try exact .intro)
  simp_all [Batch.eq_iff]
 have eCollect := h; clear h
 refine ck e73 (c73 x.Cmds y.Cmds (by omega) (by omega)) rfl ?_
 refine evl ?_
 constructor <;> intro h
 ·refine Fin.nt results139 [] ?_ ?_ ?_ <;> try trivial
  (refine rsl ?_; try exact .intro)
  simp_all [Batch.eq_iff]
 have eCmds := h; clear h
 refine Fin.nt results139 [] ?_ ?_ ?_ <;> try trivial
 (refine rsl ?_; try exact .intro)
 simp_all [Batch.eq_iff]
theorem c87 (l : List Batch) (hl : l.length <= maxLen) (hk : ∀ y ∈ l, y.lok) (left : Int) (h0 : 0 <= left) (h1 : left <= 1048576) : Ctr prog 87 [.one (.dat (.sl 2 (l.map encBatch))), .one (.dat (.int .i64 left))] [] (.one (.dat (.int .i64 (szL left (sizBatchS l))))) [] := by
 have hw := szL_wrap h0 h1 hl
 unfold sizBatchS
 refine Ctr.bd mixed func87 rfl ?_
 refine sv0 ?_
 constructor <;> intro h
 ·refine Fin.nt results87 [] ?_ ?_ ?_ <;> try trivial
  (refine rsl ?_; try exact .intro)
  exact szL_bad (left := left) (a := l.length) (by rw [szL_raw]; exact h) (by omega)
 have a0 : decide (szL left l.length < 0) = false := by rw [szL_raw]; exact h
 have e0 : left - (l.length : Int) = szL left (l.length + ((l.take 0).map sizBatch).sum) := by
  have := (szL_le h1 a0).2.1; simp; exact this.symm
 rw [e0]
 refine LoopK_intro (fun n s => ∃ i : Nat, i <= l.length /\ n = l.length - i /\ decide (szL left (l.length + ((l.take i).map sizBatch).sum) < 0) = false /\ s = mkSt [(5, .one (.dat (.int .i64 i))), (1, .one (.dat (.int .i64 (szL left (l.length + ((l.take i).map sizBatch).sum))))), (0, .one (.dat (.sl 2 (l.map encBatch))))] []) l.length _
  (Ent.wk []) ⟨0, by omega, by omega, by simpa using a0, rfl⟩ ?_
 rintro n s ⟨i, hi, rfl, ht, rfl⟩ K hK
 rcases Nat.lt_or_ge i l.length with hlt | hge
 ·have hdi : decide ((i : Int) < l.length) = true := by simpa using hlt
  have hwi := wrap_succ hlt hl
  have hs := sum_take_succ sizBatch hlt
  have hs2 := sum_take_le sizBatch l (i + 1)
  obtain ⟨_, _, g, u⟩ := szL_le h1 ht
  simp (maxSteps := 2000000) only [go_sem, seval, hdi, hwi, getD_map hlt, encBatch]
  refine ⟨⟨by omega, by omega⟩, hlt, ?_⟩
  refine CallK_pure e117 (c117 l[i] (hk _ (List.getElem_mem hlt)) _ g u) rfl ?_
  refine sv4 ?_
  rw [Nat.add_assoc, <- hs]
  constructor <;> intro h
  ·apply hK
   refine evl ?_
   refine Fin.nt results87 [] ?_ ?_ ?_ <;> try trivial
   (refine rsl ?_; try exact .intro)
   exact szL_bad h (by omega)
  ·apply hK
   exact ⟨l.length - (i + 1), _, by omega, Ent.wk [], i + 1, by omega, rfl, h, rfl⟩
 ·have hge' : i = l.length := by omega
  subst hge'
  have hdi : decide ((l.length : Int) < l.length) = false := by simp
  refine sv3 ?_
  apply hK
  refine evl ?_
  refine Fin.nt results87 [] ?_ ?_ ?_ <;> try trivial
  all_goals try ((refine rsl ?_; try exact .intro))
  all_goals simp
theorem c94 (l : List Batch) (h : sizBatchS l <= 1048576) : Ctr prog 94 [.one (.dat (.sl 2 (l.map encBatch)))] [] (.one (.own 0)) [.vec 2 true (l.map encBatch)] := by
 have hl : l.length <= 1048576 := by unfold sizBatchS at h; omega
 refine Ctr.bd mixed func94 rfl ?_
 refine evl ?_
 refine ⟨by omega, ?_⟩
 refine LoopK_intro (fun n s => ∃ i : Nat, i <= l.length /\ n = l.length - i /\ s = mkSt [(4, .one (.dat (.int .i64 i))), (3, .one (.own 0)), (0, .one (.dat (.sl 2 (l.map encBatch))))]
   [.vec 2 true ((l.take i).map encBatch ++ List.replicate (l.length - i) [.bool false, .sl 3 []])]) l.length _
  (Ent.wk [0]) ⟨0, by omega, by omega, rfl⟩ ?_
 rintro n s ⟨i, hi, rfl, rfl⟩ K hK
 rcases Nat.lt_or_ge i l.length with hlt | hge
 ·have hdi : decide ((i : Int) < l.length) = true := by simpa using hlt
  simp (maxSteps := 2000000) only [go_sem, seval, hdi, getD_map hlt, encBatch, D.flat, wrap_succ hlt (le20 hl)]
  first | refine ⟨⟨by omega, by omega⟩, hlt, ?_⟩ | refine ⟨by omega, hlt, ?_⟩
  refine CallK_pure e126 (c126 l[i] (by have := sum_get sizBatch hlt; unfold sizBatchS at h; omega)) rfl ?_
  simp (maxSteps := 2000000) only [go_sem, seval, encBatch, D.flat, wrap_succ hlt (le20 hl)]
  repeat' ((with_reducible show _ /\ _); apply And.intro)
  all_goals first
   | (apply hK
      refine ⟨l.length - (i + 1), _, by omega, Ent.weak (ids := [0]) (by simp) rfl (by simp) ?_ ?_ ?_, i + 1, by omega, rfl, rfl⟩
      ·simp only [objsLe, St.obj, find, AObj.renF, if_true, Option.getD_some, List.getD_cons_zero, and_true]
       rw [<- take_set encBatch l _ hlt]
       exact ⟨by simp, Or.inr rfl⟩
      ·simp [objsLe, envLe, find, St.obj, AObj.renF, AV.renF, AV.renF1, Leaf.renF, LowAll, AV.Low, AV.Low1, Leaf.Low, AObj.Low, Ptr.renF, Ptr.Low]
      ·simp [objsLe, envLe, find, St.obj, AObj.renF, AV.renF, AV.renF1, Leaf.renF, LowAll, AV.Low, AV.Low1, Leaf.Low, AObj.Low, Ptr.renF, Ptr.Low])
   | omega
   | decide
   | (simp; done)
   | (simp; omega)
   | trivial
 ·have hge' : i = l.length := by omega
  subst hge'
  have hdi : decide ((l.length : Int) < l.length) = false := by simp
  refine sv3 ?_
  apply hK
  refine evl ?_
  refine Fin.nt results94 [0] ?_ ?_ ?_ <;> try trivial
  all_goals simp [objsLe, St.obj, find, AObj.renF]
theorem c105 (l l' : List Batch) (h0 : sizBatchS l <= 1048576) (h0' : sizBatchS l' <= 1048576) : Ctr prog 105 [.one (.dat (.sl 2 (l.map encBatch))), .one (.dat (.sl 2 (l'.map encBatch)))] [] (.one (.dat (.bool (decide (l = l'))))) [] := by
 have hl : l.length <= maxLen := (lokBatchS (by omega)).1
 have hl' : l'.length <= maxLen := (lokBatchS (by omega)).1
 refine Ctr.bd mixed func105 rfl ?_
 refine evl ?_
 constructor <;> intro h
 ·have hne : l.length ≠ l'.length := by simp at h; omega
  refine Fin.nt results105 [] ?_ ?_ ?_ <;> try trivial
  (refine rsl ?_; try exact .intro)
  symm; rw [decide_eq_false_iff_not]
  intro e; exact hne (by rw [e])
 have hlen : l.length = l'.length := by simp at h; omega
 refine LoopK_intro (fun n s => ∃ i : Nat, i <= l.length /\ n = l.length - i /\ l.take i = l'.take i /\ s = mkSt [(5, .one (.dat (.int .i64 i))), (1, .one (.dat (.sl 2 (l'.map encBatch)))), (0, .one (.dat (.sl 2 (l.map encBatch))))] []) l.length _
  (Ent.wk []) ⟨0, by omega, by omega, rfl, rfl⟩ ?_
 rintro n s ⟨i, hi, rfl, ht, rfl⟩ K hK
 rcases Nat.lt_or_ge i l.length with hlt | hge
 ·have hdi : decide ((i : Int) < l.length) = true := by simpa using hlt
  have hlt' : i < l'.length := by omega
  simp (maxSteps := 2000000) only [go_sem, seval, hdi, wrap_succ hlt hl, getD_map hlt, getD_map hlt', encBatch]
  refine ⟨⟨by omega, by omega⟩, hlt, ⟨by omega, by omega⟩, hlt', ?_⟩
  first
   | refine CCallK_intro e139 (fun _ => ⟨trivial, c139 l[i] l'[i] (by have := sum_get sizBatch hlt; unfold sizBatchS at h0; omega) (by have := sum_get sizBatch hlt'; unfold sizBatchS at h0'; omega)⟩) rfl rfl ?_
   | refine Or.inl (CCallK_intro e139 (fun _ => ⟨trivial, c139 l[i] l'[i] (by have := sum_get sizBatch hlt; unfold sizBatchS at h0; omega) (by have := sum_get sizBatch hlt'; unfold sizBatchS at h0'; omega)⟩) rfl rfl ?_)
  refine sv1 ?_
  constructor <;> intro h
  ·apply hK
   refine evl ?_
   refine Fin.nt results105 [] ?_ ?_ ?_ <;> try trivial
   (refine rsl ?_; try exact .intro)
   symm; rw [decide_eq_false_iff_not]
   rintro rfl; simp at h
  ·apply hK
   have he : l[i] = l'[i] := by simpa using h
   exact ⟨l.length - (i + 1), _, by omega, Ent.wk [], i + 1, by omega, rfl, by rw [List.take_succ_eq_append_getElem hlt, List.take_succ_eq_append_getElem hlt', ht, he], rfl⟩
 ·have hge' : i = l.length := by omega
  subst hge'
  have hdi : decide ((l.length : Int) < l.length) = false := by simp
  refine sv3 ?_
  apply hK
  refine evl ?_
  refine Fin.nt results105 [] ?_ ?_ ?_ <;> try trivial
  (refine rsl ?_; try exact .intro)
  symm; rw [decide_eq_true_iff]
  rw [List.take_of_length_le (Nat.le_refl _), List.take_of_length_le (by omega)] at ht
  exact ht
structure TQueue where
 List : List Batch
 deriving DecidableEq
def encTQueue (x : TQueue) : List D := [.sl 2 (x.List.map encBatch)]
def TQueue.wf (x : TQueue) : Prop := (∀ y ∈ x.List, y.wf) /\ True
theorem TQueue.eq_iff (x y : TQueue) : x = y ↔ x.List = y.List := by cases x; cases y; simp
def TQueue.lok (x : TQueue) : Prop := x.List.length <= maxLen /\ (∀ y ∈ x.List, y.lok) /\ True
def sizTQueue (x : TQueue) : Nat := sizBatchS x.List
def sizTQueueS (l : List TQueue) : Nat := l.length + (l.map sizTQueue).sum
def zeroTQueue : TQueue := ⟨[]⟩
theorem decTQueue (n : Nat) (ds : List D) (h : WT prog n 100 ds) : ∃ x : TQueue, ds = encTQueue x /\ x.wf /\ x.lok := by
 cases n with
 | zero => exact h.elim
 | succ n =>
  unfold WT at h
  rw [underlying100] at h
  simp only [List.toList_toArray, List.map_cons, List.map_nil, WTs] at h
  obtain ⟨_, _, rfl, h0, rfl⟩ := h
  obtain ⟨x0, rfl, c0, w0⟩ := decSl (enc := encBatch) (q := fun x => x.wf /\ x.lok) underlying98 tc_117 decBatch h0
  exact ⟨⟨x0⟩, rfl, ⟨fun y hy => (w0 y hy).1, trivial⟩, ⟨c0, fun y hy => (w0 y hy).2, trivial⟩⟩
theorem TQueue.lok_of {x : TQueue} (h : sizTQueue x <= 16777216) : x.lok := by
 have hm : maxLen = 9223372036854775807 := rfl
 unfold sizTQueue at h
 unfold sizBatchS at h
 exact ⟨by omega, fun y hy => Batch.lok_of (by have := sum_mem sizBatch hy; omega), trivial⟩
theorem lokTQueueS {l : List TQueue} (h : sizTQueueS l <= 16777216) : l.length <= maxLen /\ ∀ y ∈ l, y.lok := by
 have hm : maxLen = 9223372036854775807 := rfl
 unfold sizTQueueS at h
 exact ⟨by omega, fun y hy => TQueue.lok_of (by have := sum_mem sizTQueue hy; omega)⟩
theorem c42 (x : TQueue) (hk : x.lok) (left : Int) (h0 : 0 <= left) (h1 : left <= 1048576) : Ctr prog 42 [.agg ((encTQueue x).map .dat), .one (.dat (.int .i64 left))] [] (.one (.dat (.int .i64 (szL left (sizTQueue x))))) [] := by
 simp only [encTQueue, List.map_cons, List.map_nil]
 unfold sizTQueue
 refine Ctr.bd mixed func42 rfl ?_
 refine evl ?_
 obtain ⟨kList, qList, _⟩ := hk
 refine CallK_pure e87 (c87 x.List kList qList left h0 h1) rfl ?_
 refine evl ?_
 constructor <;> intro h
 ·refine Fin.nt results42 [] ?_ ?_ ?_ <;> try trivial
  (refine rsl ?_; try exact .intro)
  try simp only [List.length_map] at h
  exact szL_bad (h) (by omega)
 try simp only [List.length_map] at h
 have a0 : decide (szL left (sizBatchS x.List) < 0) = false := h
 refine Fin.nt results42 [] ?_ ?_ ?_ <;> try trivial
 all_goals try ((refine rsl ?_; try exact .intro))
 all_goals try simp only [List.length_map]
theorem c46 (x : TQueue) (h : sizTQueue x <= 1048576) : Ctr prog 46 [.agg ((encTQueue x).map .dat)] [] (.agg [.own 0]) [.vec 2 true (x.List.map encBatch)] := by
 simp only [encTQueue, List.map_cons, List.map_nil]
 unfold sizTQueue at h
 refine Ctr.bd mixed func46 rfl ?_
 refine evl ?_
 refine CallK_pure e94 (c94 x.List (by omega)) rfl ?_
 refine evl ?_
 first | ((refine Fin.nt results46 [3] ?_ ?_ ?_ <;> try trivial) <;> (first | rfl | exact entd); done) | ((refine Fin.nt results46 [2] ?_ ?_ ?_ <;> try trivial) <;> (first | rfl | exact entd); done) | ((refine Fin.nt results46 [1] ?_ ?_ ?_ <;> try trivial) <;> (first | rfl | exact entd); done) | ((refine Fin.nt results46 [0] ?_ ?_ ?_ <;> try trivial) <;> (first | rfl | exact entd); done) | ((refine Fin.nt results46 [4] ?_ ?_ ?_ <;> try trivial) <;> (first | rfl | exact entd); done) | ((refine Fin.nt results46 [5] ?_ ?_ ?_ <;> try trivial) <;> (first | rfl | exact entd); done)
theorem c50 (x y : TQueue) (hx : sizTQueue x <= 1048576) (hy : sizTQueue y <= 1048576) : Ctr prog 50 [.agg ((encTQueue x).map .dat), .agg ((encTQueue y).map .dat)] [] (.one (.dat (.bool (decide (x = y))))) [] := by
 simp only [encTQueue, List.map_cons, List.map_nil]
 unfold sizTQueue at hx hy
 have hm : maxLen = 9223372036854775807 := rfl
 refine Ctr.bd mixed func50 rfl ?_
 refine evl ?_
 refine ck e105 (c105 x.List y.List (by omega) (by omega)) rfl ?_
 refine evl ?_
 constructor <;> intro h
 ·refine Fin.nt results50 [] ?_ ?_ ?_ <;> try trivial
  (refine rsl ?_; try exact .intro)
  simp_all [TQueue.eq_iff]
 have eList := h; clear h
 refine Fin.nt results50 [] ?_ ?_ ?_ <;> try trivial
 (refine rsl ?_; try exact .intro)
 simp_all [TQueue.eq_iff]
theorem c14 (l : List TQueue) (hl : l.length <= maxLen) (hk : ∀ y ∈ l, y.lok) (left : Int) (h0 : 0 <= left) (h1 : left <= 1048576) : Ctr prog 14 [.one (.dat (.sl 1 (l.map encTQueue))), .one (.dat (.int .i64 left))] [] (.one (.dat (.int .i64 (szL left (sizTQueueS l))))) [] := by
 have hw := szL_wrap h0 h1 hl
 unfold sizTQueueS
 refine Ctr.bd mixed func14 rfl ?_
 refine sv0 ?_
 constructor <;> intro h
 ·refine Fin.nt results14 [] ?_ ?_ ?_ <;> try trivial
  (refine rsl ?_; try exact .intro)
  exact szL_bad (left := left) (a := l.length) (by rw [szL_raw]; exact h) (by omega)
 have a0 : decide (szL left l.length < 0) = false := by rw [szL_raw]; exact h
 have e0 : left - (l.length : Int) = szL left (l.length + ((l.take 0).map sizTQueue).sum) := by
  have := (szL_le h1 a0).2.1; simp; exact this.symm
 rw [e0]
 refine LoopK_intro (fun n s => ∃ i : Nat, i <= l.length /\ n = l.length - i /\ decide (szL left (l.length + ((l.take i).map sizTQueue).sum) < 0) = false /\ s = mkSt [(5, .one (.dat (.int .i64 i))), (1, .one (.dat (.int .i64 (szL left (l.length + ((l.take i).map sizTQueue).sum))))), (0, .one (.dat (.sl 1 (l.map encTQueue))))] []) l.length _
  (Ent.wk []) ⟨0, by omega, by omega, by simpa using a0, rfl⟩ ?_
 rintro n s ⟨i, hi, rfl, ht, rfl⟩ K hK
 rcases Nat.lt_or_ge i l.length with hlt | hge
 ·have hdi : decide ((i : Int) < l.length) = true := by simpa using hlt
  have hwi := wrap_succ hlt hl
  have hs := sum_take_succ sizTQueue hlt
  have hs2 := sum_take_le sizTQueue l (i + 1)
  obtain ⟨_, _, g, u⟩ := szL_le h1 ht
  simp (maxSteps := 2000000) only [go_sem, seval, hdi, hwi, getD_map hlt, encTQueue]
  refine ⟨⟨by omega, by omega⟩, hlt, ?_⟩
  refine CallK_pure e42 (c42 l[i] (hk _ (List.getElem_mem hlt)) _ g u) rfl ?_
  refine sv4 ?_
  rw [Nat.add_assoc, <- hs]
  constructor <;> intro h
  ·apply hK
   refine evl ?_
   refine Fin.nt results14 [] ?_ ?_ ?_ <;> try trivial
   (refine rsl ?_; try exact .intro)
   exact szL_bad h (by omega)
  ·apply hK
   exact ⟨l.length - (i + 1), _, by omega, Ent.wk [], i + 1, by omega, rfl, h, rfl⟩
 ·have hge' : i = l.length := by omega
  subst hge'
  have hdi : decide ((l.length : Int) < l.length) = false := by simp
  refine sv3 ?_
  apply hK
  refine evl ?_
  refine Fin.nt results14 [] ?_ ?_ ?_ <;> try trivial
  all_goals try ((refine rsl ?_; try exact .intro))
  all_goals simp
theorem c16 (l : List TQueue) (h : sizTQueueS l <= 1048576) : Ctr prog 16 [.one (.dat (.sl 1 (l.map encTQueue)))] [] (.one (.own 0)) [.vec 1 true (l.map encTQueue)] := by
 have hl : l.length <= 1048576 := by unfold sizTQueueS at h; omega
 refine Ctr.bd mixed func16 rfl ?_
 refine evl ?_
 refine ⟨by omega, ?_⟩
 refine LoopK_intro (fun n s => ∃ i : Nat, i <= l.length /\ n = l.length - i /\ s = mkSt [(4, .one (.dat (.int .i64 i))), (3, .one (.own 0)), (0, .one (.dat (.sl 1 (l.map encTQueue))))]
   [.vec 1 true ((l.take i).map encTQueue ++ List.replicate (l.length - i) [.sl 2 []])]) l.length _
  (Ent.wk [0]) ⟨0, by omega, by omega, rfl⟩ ?_
 rintro n s ⟨i, hi, rfl, rfl⟩ K hK
 rcases Nat.lt_or_ge i l.length with hlt | hge
 ·have hdi : decide ((i : Int) < l.length) = true := by simpa using hlt
  simp (maxSteps := 2000000) only [go_sem, seval, hdi, getD_map hlt, encTQueue, D.flat, wrap_succ hlt (le20 hl)]
  first | refine ⟨⟨by omega, by omega⟩, hlt, ?_⟩ | refine ⟨by omega, hlt, ?_⟩
  refine CallK_pure e46 (c46 l[i] (by have := sum_get sizTQueue hlt; unfold sizTQueueS at h; omega)) rfl ?_
  simp (maxSteps := 2000000) only [go_sem, seval, encTQueue, D.flat, wrap_succ hlt (le20 hl)]
  repeat' ((with_reducible show _ /\ _); apply And.intro)
  all_goals first
   | (apply hK
      refine ⟨l.length - (i + 1), _, by omega, Ent.weak (ids := [0]) (by simp) rfl (by simp) ?_ ?_ ?_, i + 1, by omega, rfl, rfl⟩
      ·simp only [objsLe, St.obj, find, AObj.renF, if_true, Option.getD_some, List.getD_cons_zero, and_true]
       rw [<- take_set encTQueue l _ hlt]
       exact ⟨by simp, Or.inr rfl⟩
      ·simp [objsLe, envLe, find, St.obj, AObj.renF, AV.renF, AV.renF1, Leaf.renF, LowAll, AV.Low, AV.Low1, Leaf.Low, AObj.Low, Ptr.renF, Ptr.Low]
      ·simp [objsLe, envLe, find, St.obj, AObj.renF, AV.renF, AV.renF1, Leaf.renF, LowAll, AV.Low, AV.Low1, Leaf.Low, AObj.Low, Ptr.renF, Ptr.Low])
   | omega
   | decide
   | (simp; done)
   | (simp; omega)
   | trivial
 ·have hge' : i = l.length := by omega
  subst hge'
  have hdi : decide ((l.length : Int) < l.length) = false := by simp
  refine sv3 ?_
  apply hK
  refine evl ?_
  refine Fin.nt results16 [0] ?_ ?_ ?_ <;> try trivial
  all_goals simp [objsLe, St.obj, find, AObj.renF]
theorem c18 (l l' : List TQueue) (h0 : sizTQueueS l <= 1048576) (h0' : sizTQueueS l' <= 1048576) : Ctr prog 18 [.one (.dat (.sl 1 (l.map encTQueue))), .one (.dat (.sl 1 (l'.map encTQueue)))] [] (.one (.dat (.bool (decide (l = l'))))) [] := by
 have hl : l.length <= maxLen := (lokTQueueS (by omega)).1
 have hl' : l'.length <= maxLen := (lokTQueueS (by omega)).1
 refine Ctr.bd mixed func18 rfl ?_
 refine evl ?_
 constructor <;> intro h
 ·have hne : l.length ≠ l'.length := by simp at h; omega
  refine Fin.nt results18 [] ?_ ?_ ?_ <;> try trivial
  (refine rsl ?_; try exact .intro)
  symm; rw [decide_eq_false_iff_not]
  intro e; exact hne (by rw [e])
 have hlen : l.length = l'.length := by simp at h; omega
 refine LoopK_intro (fun n s => ∃ i : Nat, i <= l.length /\ n = l.length - i /\ l.take i = l'.take i /\ s = mkSt [(5, .one (.dat (.int .i64 i))), (1, .one (.dat (.sl 1 (l'.map encTQueue)))), (0, .one (.dat (.sl 1 (l.map encTQueue))))] []) l.length _
  (Ent.wk []) ⟨0, by omega, by omega, rfl, rfl⟩ ?_
 rintro n s ⟨i, hi, rfl, ht, rfl⟩ K hK
 rcases Nat.lt_or_ge i l.length with hlt | hge
 ·have hdi : decide ((i : Int) < l.length) = true := by simpa using hlt
  have hlt' : i < l'.length := by omega
  simp (maxSteps := 2000000) only [go_sem, seval, hdi, wrap_succ hlt hl, getD_map hlt, getD_map hlt', encTQueue]
  refine ⟨⟨by omega, by omega⟩, hlt, ⟨by omega, by omega⟩, hlt', ?_⟩
  first
   | refine CCallK_intro e50 (fun _ => ⟨trivial, c50 l[i] l'[i] (by have := sum_get sizTQueue hlt; unfold sizTQueueS at h0; omega) (by have := sum_get sizTQueue hlt'; unfold sizTQueueS at h0'; omega)⟩) rfl rfl ?_
   | refine Or.inl (CCallK_intro e50 (fun _ => ⟨trivial, c50 l[i] l'[i] (by have := sum_get sizTQueue hlt; unfold sizTQueueS at h0; omega) (by have := sum_get sizTQueue hlt'; unfold sizTQueueS at h0'; omega)⟩) rfl rfl ?_)
  refine sv1 ?_
  constructor <;> intro h
  ·apply hK
   refine evl ?_
   refine Fin.nt results18 [] ?_ ?_ ?_ <;> try trivial
   (refine rsl ?_; try exact .intro)
   symm; rw [decide_eq_false_iff_not]
   rintro rfl; simp at h
  ·apply hK
   have he : l[i] = l'[i] := by simpa using h
   exact ⟨l.length - (i + 1), _, by omega, Ent.wk [], i + 1, by omega, rfl, by rw [List.take_succ_eq_append_getElem hlt, List.take_succ_eq_append_getElem hlt', ht, he], rfl⟩
 ·have hge' : i = l.length := by omega
  subst hge'
  have hdi : decide ((l.length : Int) < l.length) = false := by simp
  refine sv3 ?_
  apply hK
  refine evl ?_
  refine Fin.nt results18 [] ?_ ?_ ?_ <;> try trivial
  (refine rsl ?_; try exact .intro)
  symm; rw [decide_eq_true_iff]
  rw [List.take_of_length_le (Nat.le_refl _), List.take_of_length_le (by omega)] at ht
  exact ht
def Res.lok (x : Res) : Prop := True
def zeroRes : Res := ⟨false, 0⟩
theorem decRes (n : Nat) (ds : List D) (h : WT prog n 244 ds) : ∃ x : Res, ds = encRes x /\ x.wf /\ x.lok := by
 cases n with
 | zero => exact h.elim
 | succ n =>
  unfold WT at h
  rw [underlying244] at h
  simp only [List.toList_toArray, List.map_cons, List.map_nil, WTs] at h
  obtain ⟨_, _, rfl, h0, ⟨_, _, rfl, h1, rfl⟩⟩ := h
  obtain ⟨x0, rfl⟩ := decBool underlying4 h0
  obtain ⟨x1, rfl, w1⟩ := decInt underlying3 h1
  exact ⟨⟨x0, x1⟩, rfl, ⟨w1, trivial⟩, trivial⟩
structure TJob where
 Busy : Bool
 Batch : Batch
 Serial : Int
 Pc : Int
 At : Int
 K : Int
 Bkt : Int
 Ver : Int
 H : Int
 Prev : Int
 Node : Node
 Found : Bool
 Code : Int
 Sub : Sub
 Reads : List Seen
 Writes : List Write
 Res : List Res
 New : List Int
 Held : List Int
 Olds : List Int
 deriving DecidableEq
def encTJob (x : TJob) : List D := [.bool x.Busy, .bool x.Batch.Collect, .sl 3 (x.Batch.Cmds.map encCmd), .int .i64 x.Serial, .int .i64 x.Pc, .int .i64 x.At, .int .i64 x.K, .int .i64 x.Bkt, .int .i64 x.Ver, .int .i64 x.H, .int .i64 x.Prev, .int .i64 x.Node.Key, .int .i64 x.Node.Val, .int .i64 x.Node.Next, .bool x.Found, .int .i64 x.Code, .int .i64 x.Sub.Kind, .int .i64 x.Sub.A, .int .i64 x.Sub.Pc, .int .i64 x.Sub.E, .int .i64 x.Sub.Row, .int .i64 x.Sub.B, .int .i64 x.Sub.H, .int .i64 x.Sub.Out, .int .i64 x.Sub.Code, .bool x.Sub.Done, .sl 2 (x.Reads.map encSeen), .sl 3 (x.Writes.map encWrite), .sl 2 (x.Res.map encRes), .sl 1 (x.New.map encI), .sl 1 (x.Held.map encI), .sl 1 (x.Olds.map encI)]
def TJob.wf (x : TJob) : Prop := x.Batch.wf /\ (Lit.int .i64 x.Serial).wf = true /\ (Lit.int .i64 x.Pc).wf = true /\ (Lit.int .i64 x.At).wf = true /\ (Lit.int .i64 x.K).wf = true /\ (Lit.int .i64 x.Bkt).wf = true /\ (Lit.int .i64 x.Ver).wf = true /\ (Lit.int .i64 x.H).wf = true /\ (Lit.int .i64 x.Prev).wf = true /\ x.Node.wf /\ (Lit.int .i64 x.Code).wf = true /\ x.Sub.wf /\ (∀ y ∈ x.Reads, y.wf) /\ (∀ y ∈ x.Writes, y.wf) /\ (∀ y ∈ x.Res, y.wf) /\ (∀ y ∈ x.New, (Lit.int .i64 y).wf = true) /\ (∀ y ∈ x.Held, (Lit.int .i64 y).wf = true) /\ (∀ y ∈ x.Olds, (Lit.int .i64 y).wf = true) /\ True
theorem TJob.eq_iff (x y : TJob) : x = y ↔ x.Busy = y.Busy /\ x.Batch = y.Batch /\ x.Serial = y.Serial /\ x.Pc = y.Pc /\ x.At = y.At /\ x.K = y.K /\ x.Bkt = y.Bkt /\ x.Ver = y.Ver /\ x.H = y.H /\ x.Prev = y.Prev /\ x.Node = y.Node /\ x.Found = y.Found /\ x.Code = y.Code /\ x.Sub = y.Sub /\ x.Reads = y.Reads /\ x.Writes = y.Writes /\ x.Res = y.Res /\ x.New = y.New /\ x.Held = y.Held /\ x.Olds = y.Olds := by cases x; cases y; simp
def TJob.lok (x : TJob) : Prop := x.Batch.lok /\ x.Reads.length <= maxLen /\ x.Writes.length <= maxLen /\ x.Res.length <= maxLen /\ x.New.length <= maxLen /\ x.Held.length <= maxLen /\ x.Olds.length <= maxLen /\ True
def sizTJob (x : TJob) : Nat := sizBatch x.Batch + x.Reads.length + x.Writes.length + x.Res.length + x.New.length + x.Held.length + x.Olds.length
def sizTJobS (l : List TJob) : Nat := l.length + (l.map sizTJob).sum
def zeroTJob : TJob := ⟨false, zeroBatch, 0, 0, 0, 0, 0, 0, 0, 0, zeroNode, false, 0, zeroSub, [], [], [], [], [], []⟩
theorem decTJob (n : Nat) (ds : List D) (h : WT prog n 126 ds) : ∃ x : TJob, ds = encTJob x /\ x.wf /\ x.lok := by
 cases n with
 | zero => exact h.elim
 | succ n =>
  unfold WT at h
  rw [underlying126] at h
  simp only [List.toList_toArray, List.map_cons, List.map_nil, WTs] at h
  obtain ⟨_, _, rfl, h0, ⟨_, _, rfl, h1, ⟨_, _, rfl, h2, ⟨_, _, rfl, h3, ⟨_, _, rfl, h4, ⟨_, _, rfl, h5, ⟨_, _, rfl, h6, ⟨_, _, rfl, h7, ⟨_, _, rfl, h8, ⟨_, _, rfl, h9, ⟨_, _, rfl, h10, ⟨_, _, rfl, h11, ⟨_, _, rfl, h12, ⟨_, _, rfl, h13, ⟨_, _, rfl, h14, ⟨_, _, rfl, h15, ⟨_, _, rfl, h16, ⟨_, _, rfl, h17, ⟨_, _, rfl, h18, ⟨_, _, rfl, h19, rfl⟩⟩⟩⟩⟩⟩⟩⟩⟩⟩⟩⟩⟩⟩⟩⟩⟩⟩⟩⟩ := h
  obtain ⟨x0, rfl⟩ := decBool underlying4 h0
  obtain ⟨x1, rfl, w1, k1⟩ := decBatch _ _ h1
  obtain ⟨x2, rfl, w2⟩ := decInt underlying3 h2
  obtain ⟨x3, rfl, w3⟩ := decInt underlying3 h3
  obtain ⟨x4, rfl, w4⟩ := decInt underlying3 h4
  obtain ⟨x5, rfl, w5⟩ := decInt underlying3 h5
  obtain ⟨x6, rfl, w6⟩ := decInt underlying3 h6
  obtain ⟨x7, rfl, w7⟩ := decInt underlying3 h7
  obtain ⟨x8, rfl, w8⟩ := decInt underlying3 h8
  obtain ⟨x9, rfl, w9⟩ := decInt underlying3 h9
  obtain ⟨x10, rfl, w10, k10⟩ := decNode _ _ h10
  obtain ⟨x11, rfl⟩ := decBool underlying4 h11
  obtain ⟨x12, rfl, w12⟩ := decInt underlying3 h12
  obtain ⟨x13, rfl, w13, k13⟩ := decSub _ _ h13
  obtain ⟨x14, rfl, c14, w14⟩ := decSl (enc := encSeen) (q := fun x => x.wf /\ x.lok) underlying122 tc_240 decSeen h14
  obtain ⟨x15, rfl, c15, w15⟩ := decSl (enc := encWrite) (q := fun x => x.wf /\ x.lok) underlying123 tc_242 decWrite h15
  obtain ⟨x16, rfl, c16, w16⟩ := decSl (enc := encRes) (q := fun x => x.wf /\ x.lok) underlying124 tc_244 decRes h16
  obtain ⟨x17, rfl, c17, w17⟩ := decSl (enc := encI) (q := fun x => (Lit.int .i64 x).wf = true) underlying22 tc_3 (fun _ _ h => decInt underlying3 h) h17
  obtain ⟨x18, rfl, c18, w18⟩ := decSl (enc := encI) (q := fun x => (Lit.int .i64 x).wf = true) underlying22 tc_3 (fun _ _ h => decInt underlying3 h) h18
  obtain ⟨x19, rfl, c19, w19⟩ := decSl (enc := encI) (q := fun x => (Lit.int .i64 x).wf = true) underlying22 tc_3 (fun _ _ h => decInt underlying3 h) h19
  exact ⟨⟨x0, x1, x2, x3, x4, x5, x6, x7, x8, x9, x10, x11, x12, x13, x14, x15, x16, x17, x18, x19⟩, rfl, ⟨w1, w2, w3, w4, w5, w6, w7, w8, w9, w10, w12, w13, fun y hy => (w14 y hy).1, fun y hy => (w15 y hy).1, fun y hy => (w16 y hy).1, w17, w18, w19, trivial⟩, ⟨k1, c14, c15, c16, c17, c18, c19, trivial⟩⟩
theorem TJob.lok_of {x : TJob} (h : sizTJob x <= 16777216) : x.lok := by
 have hm : maxLen = 9223372036854775807 := rfl
 unfold sizTJob at h
 exact ⟨Batch.lok_of (by omega), by omega, by omega, by omega, by omega, by omega, by omega, trivial⟩
theorem lokTJobS {l : List TJob} (h : sizTJobS l <= 16777216) : l.length <= maxLen /\ ∀ y ∈ l, y.lok := by
 have hm : maxLen = 9223372036854775807 := rfl
 unfold sizTJobS at h
 exact ⟨by omega, fun y hy => TJob.lok_of (by have := sum_mem sizTJob hy; omega)⟩
theorem c60 (x : TJob) (hk : x.lok) (left : Int) (h0 : 0 <= left) (h1 : left <= 1048576) : Ctr prog 60 [.agg ((encTJob x).map .dat), .one (.dat (.int .i64 left))] [] (.one (.dat (.int .i64 (szL left (sizTJob x))))) [] := by
 simp only [encTJob, List.map_cons, List.map_nil]
 unfold sizTJob
 refine Ctr.bd mixed func60 rfl ?_
 refine evl ?_
 obtain ⟨kBatch, kReads, kWrites, kRes, kNew, kHeld, kOlds, _⟩ := hk
 refine CallK_pure e117 (c117 x.Batch kBatch left h0 h1) rfl ?_
 refine evl ?_
 constructor <;> intro h
 ·refine Fin.nt results60 [] ?_ ?_ ?_ <;> try trivial
  (refine rsl ?_; try exact .intro)
  try simp only [List.length_map] at h
  exact szL_bad (h) (by omega)
 try simp only [List.length_map] at h
 have a0 : decide (szL left (sizBatch x.Batch) < 0) = false := h
 obtain ⟨_, _, g0, u0⟩ := szL_le h1 a0
 try simp only [List.length_map]
 refine CallK_pure e118 (c118 (x.Reads.map encSeen) (szL left (sizBatch x.Batch)) g0 u0 (by simpa using kReads)) rfl ?_
 refine evl ?_
 constructor <;> intro h
 ·refine Fin.nt results60 [] ?_ ?_ ?_ <;> try trivial
  (refine rsl ?_; try exact .intro)
  try simp only [List.length_map] at h
  exact szL_bad (szL_at h0 a0 ▸ h) (by omega)
 try simp only [List.length_map] at h
 have a1 : decide (szL left (sizBatch x.Batch + x.Reads.length) < 0) = false := szL_at h0 a0 ▸ h
 obtain ⟨_, _, g1, u1⟩ := szL_le h1 a1
 try simp only [List.length_map]
 rw [szL_at h0 a0]
 refine CallK_pure e119 (c119 (x.Writes.map encWrite) (szL left (sizBatch x.Batch + x.Reads.length)) g1 u1 (by simpa using kWrites)) rfl ?_
 refine evl ?_
 constructor <;> intro h
 ·refine Fin.nt results60 [] ?_ ?_ ?_ <;> try trivial
  (refine rsl ?_; try exact .intro)
  try simp only [List.length_map] at h
  exact szL_bad (szL_at h0 a1 ▸ h) (by omega)
 try simp only [List.length_map] at h
 have a2 : decide (szL left (sizBatch x.Batch + x.Reads.length + x.Writes.length) < 0) = false := szL_at h0 a1 ▸ h
 obtain ⟨_, _, g2, u2⟩ := szL_le h1 a2
 try simp only [List.length_map]
 rw [szL_at h0 a1]
 refine CallK_pure e120 (c120 (x.Res.map encRes) (szL left (sizBatch x.Batch + x.Reads.length + x.Writes.length)) g2 u2 (by simpa using kRes)) rfl ?_
 refine evl ?_
 constructor <;> intro h
 ·refine Fin.nt results60 [] ?_ ?_ ?_ <;> try trivial
  (refine rsl ?_; try exact .intro)
  try simp only [List.length_map] at h
  exact szL_bad (szL_at h0 a2 ▸ h) (by omega)
 try simp only [List.length_map] at h
 have a3 : decide (szL left (sizBatch x.Batch + x.Reads.length + x.Writes.length + x.Res.length) < 0) = false := szL_at h0 a2 ▸ h
 obtain ⟨_, _, g3, u3⟩ := szL_le h1 a3
 try simp only [List.length_map]
 rw [szL_at h0 a2]
 refine CallK_pure e59 (c59 (x.New.map encI) (szL left (sizBatch x.Batch + x.Reads.length + x.Writes.length + x.Res.length)) g3 u3 (by simpa using kNew)) rfl ?_
 refine evl ?_
 constructor <;> intro h
 ·refine Fin.nt results60 [] ?_ ?_ ?_ <;> try trivial
  (refine rsl ?_; try exact .intro)
  try simp only [List.length_map] at h
  exact szL_bad (szL_at h0 a3 ▸ h) (by omega)
 try simp only [List.length_map] at h
 have a4 : decide (szL left (sizBatch x.Batch + x.Reads.length + x.Writes.length + x.Res.length + x.New.length) < 0) = false := szL_at h0 a3 ▸ h
 obtain ⟨_, _, g4, u4⟩ := szL_le h1 a4
 try simp only [List.length_map]
 rw [szL_at h0 a3]
 refine CallK_pure e59 (c59 (x.Held.map encI) (szL left (sizBatch x.Batch + x.Reads.length + x.Writes.length + x.Res.length + x.New.length)) g4 u4 (by simpa using kHeld)) rfl ?_
 refine evl ?_
 constructor <;> intro h
 ·refine Fin.nt results60 [] ?_ ?_ ?_ <;> try trivial
  (refine rsl ?_; try exact .intro)
  try simp only [List.length_map] at h
  exact szL_bad (szL_at h0 a4 ▸ h) (by omega)
 try simp only [List.length_map] at h
 have a5 : decide (szL left (sizBatch x.Batch + x.Reads.length + x.Writes.length + x.Res.length + x.New.length + x.Held.length) < 0) = false := szL_at h0 a4 ▸ h
 obtain ⟨_, _, g5, u5⟩ := szL_le h1 a5
 try simp only [List.length_map]
 rw [szL_at h0 a4]
 refine CallK_pure e59 (c59 (x.Olds.map encI) (szL left (sizBatch x.Batch + x.Reads.length + x.Writes.length + x.Res.length + x.New.length + x.Held.length)) g5 u5 (by simpa using kOlds)) rfl ?_
 refine evl ?_
 constructor <;> intro h
 ·refine Fin.nt results60 [] ?_ ?_ ?_ <;> try trivial
  (refine rsl ?_; try exact .intro)
  try simp only [List.length_map] at h
  exact szL_bad (szL_at h0 a5 ▸ h) (by omega)
 try simp only [List.length_map] at h
 have a6 : decide (szL left (sizBatch x.Batch + x.Reads.length + x.Writes.length + x.Res.length + x.New.length + x.Held.length + x.Olds.length) < 0) = false := szL_at h0 a5 ▸ h
 refine Fin.nt results60 [] ?_ ?_ ?_ <;> try trivial
 all_goals try ((refine rsl ?_; try exact .intro))
 all_goals try simp only [List.length_map]
 all_goals try exact szL_at h0 a5
theorem c69 (x : TJob) (h : sizTJob x <= 1048576) : Ctr prog 69 [.agg ((encTJob x).map .dat)] [] (.agg [.dat (.bool x.Busy), .dat (.bool x.Batch.Collect), .own 0, .dat (.int .i64 x.Serial), .dat (.int .i64 x.Pc), .dat (.int .i64 x.At), .dat (.int .i64 x.K), .dat (.int .i64 x.Bkt), .dat (.int .i64 x.Ver), .dat (.int .i64 x.H), .dat (.int .i64 x.Prev), .dat (.int .i64 x.Node.Key), .dat (.int .i64 x.Node.Val), .dat (.int .i64 x.Node.Next), .dat (.bool x.Found), .dat (.int .i64 x.Code), .dat (.int .i64 x.Sub.Kind), .dat (.int .i64 x.Sub.A), .dat (.int .i64 x.Sub.Pc), .dat (.int .i64 x.Sub.E), .dat (.int .i64 x.Sub.Row), .dat (.int .i64 x.Sub.B), .dat (.int .i64 x.Sub.H), .dat (.int .i64 x.Sub.Out), .dat (.int .i64 x.Sub.Code), .dat (.bool x.Sub.Done), .own 1, .own 2, .own 3, .own 4, .own 5, .own 6]) [.vec 3 true (x.Batch.Cmds.map encCmd), .vec 2 true (x.Reads.map encSeen), .vec 3 true (x.Writes.map encWrite), .vec 2 true (x.Res.map encRes), .vec 1 true (x.New.map encI), .vec 1 true (x.Held.map encI), .vec 1 true (x.Olds.map encI)] := by
 simp only [encTJob, List.map_cons, List.map_nil]
 unfold sizTJob at h
 refine Ctr.bd mixed func69 rfl ?_
 refine evl ?_
 refine CallK_pure e126 (c126 x.Batch (by omega)) rfl ?_
 refine evl ?_
 refine CallK_pure e127 (c127 x.Node) rfl ?_
 simp (maxSteps := 2000000) only [go_sem, seval, encNode]
 refine CallK_pure e128 (c128 x.Sub) rfl ?_
 simp (maxSteps := 2000000) only [go_sem, seval, encSub]
 refine CallK_pure e129 (c129 x.Reads (by omega)) rfl ?_
 refine evl ?_
 refine CallK_pure e130 (c130 x.Writes (by omega)) rfl ?_
 refine evl ?_
 refine CallK_pure e131 (c131 x.Res (by omega)) rfl ?_
 refine evl ?_
 refine CallK_pure e67 (c67 x.New (by omega)) rfl ?_
 refine evl ?_
 refine CallK_pure e67 (c67 x.Held (by omega)) rfl ?_
 refine evl ?_
 refine CallK_pure e67 (c67 x.Olds (by omega)) rfl ?_
 refine evl ?_
 first | ((refine Fin.nt results69 [3, 4, 5, 6, 7, 8, 9] ?_ ?_ ?_ <;> try trivial) <;> (first | rfl | exact entd); done) | ((refine Fin.nt results69 [2, 3, 4, 5, 6, 7, 8] ?_ ?_ ?_ <;> try trivial) <;> (first | rfl | exact entd); done) | ((refine Fin.nt results69 [1, 2, 3, 4, 5, 6, 7] ?_ ?_ ?_ <;> try trivial) <;> (first | rfl | exact entd); done) | ((refine Fin.nt results69 [0, 1, 2, 3, 4, 5, 6] ?_ ?_ ?_ <;> try trivial) <;> (first | rfl | exact entd); done) | ((refine Fin.nt results69 [4, 5, 6, 7, 8, 9, 10] ?_ ?_ ?_ <;> try trivial) <;> (first | rfl | exact entd); done) | ((refine Fin.nt results69 [5, 6, 7, 8, 9, 10, 11] ?_ ?_ ?_ <;> try trivial) <;> (first | rfl | exact entd); done)
theorem c80 (x y : TJob) (hx : sizTJob x <= 1048576) (hy : sizTJob y <= 1048576) : Ctr prog 80 [.agg ((encTJob x).map .dat), .agg ((encTJob y).map .dat)] [] (.one (.dat (.bool (decide (x = y))))) [] := by
 simp only [encTJob, List.map_cons, List.map_nil]
 unfold sizTJob at hx hy
 have hm : maxLen = 9223372036854775807 := rfl
 refine Ctr.bd mixed func80 rfl ?_
 refine evl ?_
 constructor <;> intro h
 ·refine Fin.nt results80 [] ?_ ?_ ?_ <;> try trivial
  (refine rsl ?_; try exact .intro)
  simp_all [TJob.eq_iff]
 have eBusy := h; clear h
 refine ck e139 (c139 x.Batch y.Batch (by omega) (by omega)) rfl ?_
 refine evl ?_
 constructor <;> intro h
 ·refine Fin.nt results80 [] ?_ ?_ ?_ <;> try trivial
  (refine rsl ?_; try exact .intro)
  simp_all [TJob.eq_iff]
 have eBatch := h; clear h
 constructor <;> intro h
 ·refine Fin.nt results80 [] ?_ ?_ ?_ <;> try trivial
  (refine rsl ?_; try exact .intro)
  simp_all [TJob.eq_iff]
 have eSerial := h; clear h
 constructor <;> intro h
 ·refine Fin.nt results80 [] ?_ ?_ ?_ <;> try trivial
  (refine rsl ?_; try exact .intro)
  simp_all [TJob.eq_iff]
 have ePc := h; clear h
 constructor <;> intro h
 ·refine Fin.nt results80 [] ?_ ?_ ?_ <;> try trivial
  (refine rsl ?_; try exact .intro)
  simp_all [TJob.eq_iff]
 have eAt := h; clear h
 constructor <;> intro h
 ·refine Fin.nt results80 [] ?_ ?_ ?_ <;> try trivial
  (refine rsl ?_; try exact .intro)
  simp_all [TJob.eq_iff]
 have eK := h; clear h
 constructor <;> intro h
 ·refine Fin.nt results80 [] ?_ ?_ ?_ <;> try trivial
  (refine rsl ?_; try exact .intro)
  simp_all [TJob.eq_iff]
 have eBkt := h; clear h
 constructor <;> intro h
 ·refine Fin.nt results80 [] ?_ ?_ ?_ <;> try trivial
  (refine rsl ?_; try exact .intro)
  simp_all [TJob.eq_iff]
 have eVer := h; clear h
 constructor <;> intro h
 ·refine Fin.nt results80 [] ?_ ?_ ?_ <;> try trivial
  (refine rsl ?_; try exact .intro)
  simp_all [TJob.eq_iff]
 have eH := h; clear h
 constructor <;> intro h
 ·refine Fin.nt results80 [] ?_ ?_ ?_ <;> try trivial
  (refine rsl ?_; try exact .intro)
  simp_all [TJob.eq_iff]
 have ePrev := h; clear h
 refine ck e140 (c140 x.Node y.Node) rfl ?_
 refine evl ?_
 constructor <;> intro h
 ·refine Fin.nt results80 [] ?_ ?_ ?_ <;> try trivial
  (refine rsl ?_; try exact .intro)
  simp_all [TJob.eq_iff]
 have eNode := h; clear h
 constructor <;> intro h
 ·refine Fin.nt results80 [] ?_ ?_ ?_ <;> try trivial
  (refine rsl ?_; try exact .intro)
  simp_all [TJob.eq_iff]
 have eFound := h; clear h
 constructor <;> intro h
 ·refine Fin.nt results80 [] ?_ ?_ ?_ <;> try trivial
  (refine rsl ?_; try exact .intro)
  simp_all [TJob.eq_iff]
 have eCode := h; clear h
 refine ck e141 (c141 x.Sub y.Sub) rfl ?_
 refine evl ?_
 constructor <;> intro h
 ·refine Fin.nt results80 [] ?_ ?_ ?_ <;> try trivial
  (refine rsl ?_; try exact .intro)
  simp_all [TJob.eq_iff]
 have eSub := h; clear h
 refine ck e142 (c142 x.Reads y.Reads (by omega) (by omega)) rfl ?_
 refine evl ?_
 constructor <;> intro h
 ·refine Fin.nt results80 [] ?_ ?_ ?_ <;> try trivial
  (refine rsl ?_; try exact .intro)
  simp_all [TJob.eq_iff]
 have eReads := h; clear h
 refine ck e143 (c143 x.Writes y.Writes (by omega) (by omega)) rfl ?_
 refine evl ?_
 constructor <;> intro h
 ·refine Fin.nt results80 [] ?_ ?_ ?_ <;> try trivial
  (refine rsl ?_; try exact .intro)
  simp_all [TJob.eq_iff]
 have eWrites := h; clear h
 refine ck e74 (c74 x.Res y.Res (by omega) (by omega)) rfl ?_
 refine evl ?_
 constructor <;> intro h
 ·refine Fin.nt results80 [] ?_ ?_ ?_ <;> try trivial
  (refine rsl ?_; try exact .intro)
  simp_all [TJob.eq_iff]
 have eRes := h; clear h
 refine ck e78 (c78 x.New y.New (by omega) (by omega)) rfl ?_
 refine evl ?_
 constructor <;> intro h
 ·refine Fin.nt results80 [] ?_ ?_ ?_ <;> try trivial
  (refine rsl ?_; try exact .intro)
  simp_all [TJob.eq_iff]
 have eNew := h; clear h
 refine ck e78 (c78 x.Held y.Held (by omega) (by omega)) rfl ?_
 refine evl ?_
 constructor <;> intro h
 ·refine Fin.nt results80 [] ?_ ?_ ?_ <;> try trivial
  (refine rsl ?_; try exact .intro)
  simp_all [TJob.eq_iff]
 have eHeld := h; clear h
 refine ck e78 (c78 x.Olds y.Olds (by omega) (by omega)) rfl ?_
 refine evl ?_
 constructor <;> intro h
 ·refine Fin.nt results80 [] ?_ ?_ ?_ <;> try trivial
  (refine rsl ?_; try exact .intro)
  simp_all [TJob.eq_iff]
 have eOlds := h; clear h
 refine Fin.nt results80 [] ?_ ?_ ?_ <;> try trivial
 (refine rsl ?_; try exact .intro)
 simp_all [TJob.eq_iff]
theorem c23 (l : List TJob) (hl : l.length <= maxLen) (hk : ∀ y ∈ l, y.lok) (left : Int) (h0 : 0 <= left) (h1 : left <= 1048576) : Ctr prog 23 [.one (.dat (.sl 32 (l.map encTJob))), .one (.dat (.int .i64 left))] [] (.one (.dat (.int .i64 (szL left (sizTJobS l))))) [] := by
 have hw := szL_wrap h0 h1 hl
 unfold sizTJobS
 refine Ctr.bd mixed func23 rfl ?_
 refine sv0 ?_
 constructor <;> intro h
 ·refine Fin.nt results23 [] ?_ ?_ ?_ <;> try trivial
  (refine rsl ?_; try exact .intro)
  exact szL_bad (left := left) (a := l.length) (by rw [szL_raw]; exact h) (by omega)
 have a0 : decide (szL left l.length < 0) = false := by rw [szL_raw]; exact h
 have e0 : left - (l.length : Int) = szL left (l.length + ((l.take 0).map sizTJob).sum) := by
  have := (szL_le h1 a0).2.1; simp; exact this.symm
 rw [e0]
 refine LoopK_intro (fun n s => ∃ i : Nat, i <= l.length /\ n = l.length - i /\ decide (szL left (l.length + ((l.take i).map sizTJob).sum) < 0) = false /\ s = mkSt [(5, .one (.dat (.int .i64 i))), (1, .one (.dat (.int .i64 (szL left (l.length + ((l.take i).map sizTJob).sum))))), (0, .one (.dat (.sl 32 (l.map encTJob))))] []) l.length _
  (Ent.wk []) ⟨0, by omega, by omega, by simpa using a0, rfl⟩ ?_
 rintro n s ⟨i, hi, rfl, ht, rfl⟩ K hK
 rcases Nat.lt_or_ge i l.length with hlt | hge
 ·have hdi : decide ((i : Int) < l.length) = true := by simpa using hlt
  have hwi := wrap_succ hlt hl
  have hs := sum_take_succ sizTJob hlt
  have hs2 := sum_take_le sizTJob l (i + 1)
  obtain ⟨_, _, g, u⟩ := szL_le h1 ht
  simp (maxSteps := 2000000) only [go_sem, seval, hdi, hwi, getD_map hlt, encTJob]
  refine ⟨⟨by omega, by omega⟩, hlt, ?_⟩
  refine CallK_pure e60 (c60 l[i] (hk _ (List.getElem_mem hlt)) _ g u) rfl ?_
  refine sv4 ?_
  rw [Nat.add_assoc, <- hs]
  constructor <;> intro h
  ·apply hK
   refine evl ?_
   refine Fin.nt results23 [] ?_ ?_ ?_ <;> try trivial
   (refine rsl ?_; try exact .intro)
   exact szL_bad h (by omega)
  ·apply hK
   exact ⟨l.length - (i + 1), _, by omega, Ent.wk [], i + 1, by omega, rfl, h, rfl⟩
 ·have hge' : i = l.length := by omega
  subst hge'
  have hdi : decide ((l.length : Int) < l.length) = false := by simp
  refine sv3 ?_
  apply hK
  refine evl ?_
  refine Fin.nt results23 [] ?_ ?_ ?_ <;> try trivial
  all_goals try ((refine rsl ?_; try exact .intro))
  all_goals simp
theorem c28 (l : List TJob) (h : sizTJobS l <= 1048576) : Ctr prog 28 [.one (.dat (.sl 32 (l.map encTJob)))] [] (.one (.own 0)) [.vec 32 true (l.map encTJob)] := by
 have hl : l.length <= 1048576 := by unfold sizTJobS at h; omega
 refine Ctr.bd mixed func28 rfl ?_
 refine evl ?_
 refine ⟨by omega, ?_⟩
 refine LoopK_intro (fun n s => ∃ i : Nat, i <= l.length /\ n = l.length - i /\ s = mkSt [(4, .one (.dat (.int .i64 i))), (3, .one (.own 0)), (0, .one (.dat (.sl 32 (l.map encTJob))))]
   [.vec 32 true ((l.take i).map encTJob ++ List.replicate (l.length - i) [.bool false, .bool false, .sl 3 [], .int .i64 0, .int .i64 0, .int .i64 0, .int .i64 0, .int .i64 0, .int .i64 0, .int .i64 0, .int .i64 0, .int .i64 0, .int .i64 0, .int .i64 0, .bool false, .int .i64 0, .int .i64 0, .int .i64 0, .int .i64 0, .int .i64 0, .int .i64 0, .int .i64 0, .int .i64 0, .int .i64 0, .int .i64 0, .bool false, .sl 2 [], .sl 3 [], .sl 2 [], .sl 1 [], .sl 1 [], .sl 1 []])]) l.length _
  (Ent.wk [0]) ⟨0, by omega, by omega, rfl⟩ ?_
 rintro n s ⟨i, hi, rfl, rfl⟩ K hK
 rcases Nat.lt_or_ge i l.length with hlt | hge
 ·have hdi : decide ((i : Int) < l.length) = true := by simpa using hlt
  simp (maxSteps := 2000000) only [go_sem, seval, hdi, getD_map hlt, encTJob, D.flat, wrap_succ hlt (le20 hl)]
  first | refine ⟨⟨by omega, by omega⟩, hlt, ?_⟩ | refine ⟨by omega, hlt, ?_⟩
  refine CallK_pure e69 (c69 l[i] (by have := sum_get sizTJob hlt; unfold sizTJobS at h; omega)) rfl ?_
  simp (maxSteps := 2000000) only [go_sem, seval, encTJob, D.flat, wrap_succ hlt (le20 hl)]
  repeat' ((with_reducible show _ /\ _); apply And.intro)
  all_goals first
   | (apply hK
      refine ⟨l.length - (i + 1), _, by omega, Ent.weak (ids := [0]) (by simp) rfl (by simp) ?_ ?_ ?_, i + 1, by omega, rfl, rfl⟩
      ·simp only [objsLe, St.obj, find, AObj.renF, if_true, Option.getD_some, List.getD_cons_zero, and_true]
       rw [<- take_set encTJob l _ hlt]
       exact ⟨by simp, Or.inr rfl⟩
      ·simp [objsLe, envLe, find, St.obj, AObj.renF, AV.renF, AV.renF1, Leaf.renF, LowAll, AV.Low, AV.Low1, Leaf.Low, AObj.Low, Ptr.renF, Ptr.Low]
      ·simp [objsLe, envLe, find, St.obj, AObj.renF, AV.renF, AV.renF1, Leaf.renF, LowAll, AV.Low, AV.Low1, Leaf.Low, AObj.Low, Ptr.renF, Ptr.Low])
   | omega
   | decide
   | (simp; done)
   | (simp; omega)
   | trivial
 ·have hge' : i = l.length := by omega
  subst hge'
  have hdi : decide ((l.length : Int) < l.length) = false := by simp
  refine sv3 ?_
  apply hK
  refine evl ?_
  refine Fin.nt results28 [0] ?_ ?_ ?_ <;> try trivial
  all_goals simp [objsLe, St.obj, find, AObj.renF]
theorem c34 (l l' : List TJob) (h0 : sizTJobS l <= 1048576) (h0' : sizTJobS l' <= 1048576) : Ctr prog 34 [.one (.dat (.sl 32 (l.map encTJob))), .one (.dat (.sl 32 (l'.map encTJob)))] [] (.one (.dat (.bool (decide (l = l'))))) [] := by
 have hl : l.length <= maxLen := (lokTJobS (by omega)).1
 have hl' : l'.length <= maxLen := (lokTJobS (by omega)).1
 refine Ctr.bd mixed func34 rfl ?_
 refine evl ?_
 constructor <;> intro h
 ·have hne : l.length ≠ l'.length := by simp at h; omega
  refine Fin.nt results34 [] ?_ ?_ ?_ <;> try trivial
  (refine rsl ?_; try exact .intro)
  symm; rw [decide_eq_false_iff_not]
  intro e; exact hne (by rw [e])
 have hlen : l.length = l'.length := by simp at h; omega
 refine LoopK_intro (fun n s => ∃ i : Nat, i <= l.length /\ n = l.length - i /\ l.take i = l'.take i /\ s = mkSt [(5, .one (.dat (.int .i64 i))), (1, .one (.dat (.sl 32 (l'.map encTJob)))), (0, .one (.dat (.sl 32 (l.map encTJob))))] []) l.length _
  (Ent.wk []) ⟨0, by omega, by omega, rfl, rfl⟩ ?_
 rintro n s ⟨i, hi, rfl, ht, rfl⟩ K hK
 rcases Nat.lt_or_ge i l.length with hlt | hge
 ·have hdi : decide ((i : Int) < l.length) = true := by simpa using hlt
  have hlt' : i < l'.length := by omega
  simp (maxSteps := 2000000) only [go_sem, seval, hdi, wrap_succ hlt hl, getD_map hlt, getD_map hlt', encTJob]
  refine ⟨⟨by omega, by omega⟩, hlt, ⟨by omega, by omega⟩, hlt', ?_⟩
  first
   | refine CCallK_intro e80 (fun _ => ⟨trivial, c80 l[i] l'[i] (by have := sum_get sizTJob hlt; unfold sizTJobS at h0; omega) (by have := sum_get sizTJob hlt'; unfold sizTJobS at h0'; omega)⟩) rfl rfl ?_
   | refine Or.inl (CCallK_intro e80 (fun _ => ⟨trivial, c80 l[i] l'[i] (by have := sum_get sizTJob hlt; unfold sizTJobS at h0; omega) (by have := sum_get sizTJob hlt'; unfold sizTJobS at h0'; omega)⟩) rfl rfl ?_)
  refine sv1 ?_
  constructor <;> intro h
  ·apply hK
   refine evl ?_
   refine Fin.nt results34 [] ?_ ?_ ?_ <;> try trivial
   (refine rsl ?_; try exact .intro)
   symm; rw [decide_eq_false_iff_not]
   rintro rfl; simp at h
  ·apply hK
   have he : l[i] = l'[i] := by simpa using h
   exact ⟨l.length - (i + 1), _, by omega, Ent.wk [], i + 1, by omega, rfl, by rw [List.take_succ_eq_append_getElem hlt, List.take_succ_eq_append_getElem hlt', ht, he], rfl⟩
 ·have hge' : i = l.length := by omega
  subst hge'
  have hdi : decide ((l.length : Int) < l.length) = false := by simp
  refine sv3 ?_
  apply hK
  refine evl ?_
  refine Fin.nt results34 [] ?_ ?_ ?_ <;> try trivial
  (refine rsl ?_; try exact .intro)
  symm; rw [decide_eq_true_iff]
  rw [List.take_of_length_le (Nat.le_refl _), List.take_of_length_le (by omega)] at ht
  exact ht
structure TEv where
 Kind : Int
 Who : Int
 Serial : Int
 Code : Int
 Cmds : List Cmd
 Res : List Res
 deriving DecidableEq
def encTEv (x : TEv) : List D := [.int .i64 x.Kind, .int .i64 x.Who, .int .i64 x.Serial, .int .i64 x.Code, .sl 3 (x.Cmds.map encCmd), .sl 2 (x.Res.map encRes)]
def TEv.wf (x : TEv) : Prop := (Lit.int .i64 x.Kind).wf = true /\ (Lit.int .i64 x.Who).wf = true /\ (Lit.int .i64 x.Serial).wf = true /\ (Lit.int .i64 x.Code).wf = true /\ (∀ y ∈ x.Cmds, y.wf) /\ (∀ y ∈ x.Res, y.wf) /\ True
theorem TEv.eq_iff (x y : TEv) : x = y ↔ x.Kind = y.Kind /\ x.Who = y.Who /\ x.Serial = y.Serial /\ x.Code = y.Code /\ x.Cmds = y.Cmds /\ x.Res = y.Res := by cases x; cases y; simp
def TEv.lok (x : TEv) : Prop := x.Cmds.length <= maxLen /\ x.Res.length <= maxLen /\ True
def sizTEv (x : TEv) : Nat := x.Cmds.length + x.Res.length
def sizTEvS (l : List TEv) : Nat := l.length + (l.map sizTEv).sum
def zeroTEv : TEv := ⟨0, 0, 0, 0, [], []⟩
theorem decTEv (n : Nat) (ds : List D) (h : WT prog n 129 ds) : ∃ x : TEv, ds = encTEv x /\ x.wf /\ x.lok := by
 cases n with
 | zero => exact h.elim
 | succ n =>
  unfold WT at h
  rw [underlying129] at h
  simp only [List.toList_toArray, List.map_cons, List.map_nil, WTs] at h
  obtain ⟨_, _, rfl, h0, ⟨_, _, rfl, h1, ⟨_, _, rfl, h2, ⟨_, _, rfl, h3, ⟨_, _, rfl, h4, ⟨_, _, rfl, h5, rfl⟩⟩⟩⟩⟩⟩ := h
  obtain ⟨x0, rfl, w0⟩ := decInt underlying3 h0
  obtain ⟨x1, rfl, w1⟩ := decInt underlying3 h1
  obtain ⟨x2, rfl, w2⟩ := decInt underlying3 h2
  obtain ⟨x3, rfl, w3⟩ := decInt underlying3 h3
  obtain ⟨x4, rfl, c4, w4⟩ := decSl (enc := encCmd) (q := fun x => x.wf /\ x.lok) underlying115 tc_246 decCmd h4
  obtain ⟨x5, rfl, c5, w5⟩ := decSl (enc := encRes) (q := fun x => x.wf /\ x.lok) underlying124 tc_244 decRes h5
  exact ⟨⟨x0, x1, x2, x3, x4, x5⟩, rfl, ⟨w0, w1, w2, w3, fun y hy => (w4 y hy).1, fun y hy => (w5 y hy).1, trivial⟩, ⟨c4, c5, trivial⟩⟩
theorem TEv.lok_of {x : TEv} (h : sizTEv x <= 16777216) : x.lok := by
 have hm : maxLen = 9223372036854775807 := rfl
 unfold sizTEv at h
 exact ⟨by omega, by omega, trivial⟩
theorem lokTEvS {l : List TEv} (h : sizTEvS l <= 16777216) : l.length <= maxLen /\ ∀ y ∈ l, y.lok := by
 have hm : maxLen = 9223372036854775807 := rfl
 unfold sizTEvS at h
 exact ⟨by omega, fun y hy => TEv.lok_of (by have := sum_mem sizTEv hy; omega)⟩
theorem c61 (x : TEv) (hk : x.lok) (left : Int) (h0 : 0 <= left) (h1 : left <= 1048576) : Ctr prog 61 [.agg ((encTEv x).map .dat), .one (.dat (.int .i64 left))] [] (.one (.dat (.int .i64 (szL left (sizTEv x))))) [] := by
 simp only [encTEv, List.map_cons, List.map_nil]
 unfold sizTEv
 refine Ctr.bd mixed func61 rfl ?_
 refine evl ?_
 obtain ⟨kCmds, kRes, _⟩ := hk
 refine CallK_pure e121 (c121 (x.Cmds.map encCmd) left h0 h1 (by simpa using kCmds)) rfl ?_
 refine evl ?_
 constructor <;> intro h
 ·refine Fin.nt results61 [] ?_ ?_ ?_ <;> try trivial
  (refine rsl ?_; try exact .intro)
  try simp only [List.length_map] at h
  exact szL_bad (h) (by omega)
 try simp only [List.length_map] at h
 have a0 : decide (szL left (x.Cmds.length) < 0) = false := h
 obtain ⟨_, _, g0, u0⟩ := szL_le h1 a0
 try simp only [List.length_map]
 refine CallK_pure e120 (c120 (x.Res.map encRes) (szL left (x.Cmds.length)) g0 u0 (by simpa using kRes)) rfl ?_
 refine evl ?_
 constructor <;> intro h
 ·refine Fin.nt results61 [] ?_ ?_ ?_ <;> try trivial
  (refine rsl ?_; try exact .intro)
  try simp only [List.length_map] at h
  exact szL_bad (szL_at h0 a0 ▸ h) (by omega)
 try simp only [List.length_map] at h
 have a1 : decide (szL left (x.Cmds.length + x.Res.length) < 0) = false := szL_at h0 a0 ▸ h
 refine Fin.nt results61 [] ?_ ?_ ?_ <;> try trivial
 all_goals try ((refine rsl ?_; try exact .intro))
 all_goals try simp only [List.length_map]
 all_goals try exact szL_at h0 a0
theorem c70 (x : TEv) (h : sizTEv x <= 1048576) : Ctr prog 70 [.agg ((encTEv x).map .dat)] [] (.agg [.dat (.int .i64 x.Kind), .dat (.int .i64 x.Who), .dat (.int .i64 x.Serial), .dat (.int .i64 x.Code), .own 0, .own 1]) [.vec 3 true (x.Cmds.map encCmd), .vec 2 true (x.Res.map encRes)] := by
 simp only [encTEv, List.map_cons, List.map_nil]
 unfold sizTEv at h
 refine Ctr.bd mixed func70 rfl ?_
 refine evl ?_
 refine CallK_pure e132 (c132 x.Cmds (by omega)) rfl ?_
 refine evl ?_
 refine CallK_pure e131 (c131 x.Res (by omega)) rfl ?_
 refine evl ?_
 first | ((refine Fin.nt results70 [3, 4] ?_ ?_ ?_ <;> try trivial) <;> (first | rfl | exact entd); done) | ((refine Fin.nt results70 [2, 3] ?_ ?_ ?_ <;> try trivial) <;> (first | rfl | exact entd); done) | ((refine Fin.nt results70 [1, 2] ?_ ?_ ?_ <;> try trivial) <;> (first | rfl | exact entd); done) | ((refine Fin.nt results70 [0, 1] ?_ ?_ ?_ <;> try trivial) <;> (first | rfl | exact entd); done) | ((refine Fin.nt results70 [4, 5] ?_ ?_ ?_ <;> try trivial) <;> (first | rfl | exact entd); done) | ((refine Fin.nt results70 [5, 6] ?_ ?_ ?_ <;> try trivial) <;> (first | rfl | exact entd); done)
theorem c31 (x y : TEv) (hx : sizTEv x <= 1048576) (hy : sizTEv y <= 1048576) : Ctr prog 31 [.agg ((encTEv x).map .dat), .agg ((encTEv y).map .dat)] [] (.one (.dat (.bool (decide (x = y))))) [] := by
 simp only [encTEv, List.map_cons, List.map_nil]
 unfold sizTEv at hx hy
 have hm : maxLen = 9223372036854775807 := rfl
 refine Ctr.bd mixed func31 rfl ?_
 refine evl ?_
 constructor <;> intro h
 ·refine Fin.nt results31 [] ?_ ?_ ?_ <;> try trivial
  (refine rsl ?_; try exact .intro)
  simp_all [TEv.eq_iff]
 have eKind := h; clear h
 constructor <;> intro h
 ·refine Fin.nt results31 [] ?_ ?_ ?_ <;> try trivial
  (refine rsl ?_; try exact .intro)
  simp_all [TEv.eq_iff]
 have eWho := h; clear h
 constructor <;> intro h
 ·refine Fin.nt results31 [] ?_ ?_ ?_ <;> try trivial
  (refine rsl ?_; try exact .intro)
  simp_all [TEv.eq_iff]
 have eSerial := h; clear h
 constructor <;> intro h
 ·refine Fin.nt results31 [] ?_ ?_ ?_ <;> try trivial
  (refine rsl ?_; try exact .intro)
  simp_all [TEv.eq_iff]
 have eCode := h; clear h
 refine ck e73 (c73 x.Cmds y.Cmds (by omega) (by omega)) rfl ?_
 refine evl ?_
 constructor <;> intro h
 ·refine Fin.nt results31 [] ?_ ?_ ?_ <;> try trivial
  (refine rsl ?_; try exact .intro)
  simp_all [TEv.eq_iff]
 have eCmds := h; clear h
 refine ck e74 (c74 x.Res y.Res (by omega) (by omega)) rfl ?_
 refine evl ?_
 constructor <;> intro h
 ·refine Fin.nt results31 [] ?_ ?_ ?_ <;> try trivial
  (refine rsl ?_; try exact .intro)
  simp_all [TEv.eq_iff]
 have eRes := h; clear h
 refine Fin.nt results31 [] ?_ ?_ ?_ <;> try trivial
 (refine rsl ?_; try exact .intro)
 simp_all [TEv.eq_iff]
theorem c24 (l : List TEv) (hl : l.length <= maxLen) (hk : ∀ y ∈ l, y.lok) (left : Int) (h0 : 0 <= left) (h1 : left <= 1048576) : Ctr prog 24 [.one (.dat (.sl 6 (l.map encTEv))), .one (.dat (.int .i64 left))] [] (.one (.dat (.int .i64 (szL left (sizTEvS l))))) [] := by
 have hw := szL_wrap h0 h1 hl
 unfold sizTEvS
 refine Ctr.bd mixed func24 rfl ?_
 refine sv0 ?_
 constructor <;> intro h
 ·refine Fin.nt results24 [] ?_ ?_ ?_ <;> try trivial
  (refine rsl ?_; try exact .intro)
  exact szL_bad (left := left) (a := l.length) (by rw [szL_raw]; exact h) (by omega)
 have a0 : decide (szL left l.length < 0) = false := by rw [szL_raw]; exact h
 have e0 : left - (l.length : Int) = szL left (l.length + ((l.take 0).map sizTEv).sum) := by
  have := (szL_le h1 a0).2.1; simp; exact this.symm
 rw [e0]
 refine LoopK_intro (fun n s => ∃ i : Nat, i <= l.length /\ n = l.length - i /\ decide (szL left (l.length + ((l.take i).map sizTEv).sum) < 0) = false /\ s = mkSt [(5, .one (.dat (.int .i64 i))), (1, .one (.dat (.int .i64 (szL left (l.length + ((l.take i).map sizTEv).sum))))), (0, .one (.dat (.sl 6 (l.map encTEv))))] []) l.length _
  (Ent.wk []) ⟨0, by omega, by omega, by simpa using a0, rfl⟩ ?_
 rintro n s ⟨i, hi, rfl, ht, rfl⟩ K hK
 rcases Nat.lt_or_ge i l.length with hlt | hge
 ·have hdi : decide ((i : Int) < l.length) = true := by simpa using hlt
  have hwi := wrap_succ hlt hl
  have hs := sum_take_succ sizTEv hlt
  have hs2 := sum_take_le sizTEv l (i + 1)
  obtain ⟨_, _, g, u⟩ := szL_le h1 ht
  simp (maxSteps := 2000000) only [go_sem, seval, hdi, hwi, getD_map hlt, encTEv]
  refine ⟨⟨by omega, by omega⟩, hlt, ?_⟩
  refine CallK_pure e61 (c61 l[i] (hk _ (List.getElem_mem hlt)) _ g u) rfl ?_
  refine sv4 ?_
  rw [Nat.add_assoc, <- hs]
  constructor <;> intro h
  ·apply hK
   refine evl ?_
   refine Fin.nt results24 [] ?_ ?_ ?_ <;> try trivial
   (refine rsl ?_; try exact .intro)
   exact szL_bad h (by omega)
  ·apply hK
   exact ⟨l.length - (i + 1), _, by omega, Ent.wk [], i + 1, by omega, rfl, h, rfl⟩
 ·have hge' : i = l.length := by omega
  subst hge'
  have hdi : decide ((l.length : Int) < l.length) = false := by simp
  refine sv3 ?_
  apply hK
  refine evl ?_
  refine Fin.nt results24 [] ?_ ?_ ?_ <;> try trivial
  all_goals try ((refine rsl ?_; try exact .intro))
  all_goals simp
theorem c29 (l : List TEv) (h : sizTEvS l <= 1048576) : Ctr prog 29 [.one (.dat (.sl 6 (l.map encTEv)))] [] (.one (.own 0)) [.vec 6 true (l.map encTEv)] := by
 have hl : l.length <= 1048576 := by unfold sizTEvS at h; omega
 refine Ctr.bd mixed func29 rfl ?_
 refine evl ?_
 refine ⟨by omega, ?_⟩
 refine LoopK_intro (fun n s => ∃ i : Nat, i <= l.length /\ n = l.length - i /\ s = mkSt [(4, .one (.dat (.int .i64 i))), (3, .one (.own 0)), (0, .one (.dat (.sl 6 (l.map encTEv))))]
   [.vec 6 true ((l.take i).map encTEv ++ List.replicate (l.length - i) [.int .i64 0, .int .i64 0, .int .i64 0, .int .i64 0, .sl 3 [], .sl 2 []])]) l.length _
  (Ent.wk [0]) ⟨0, by omega, by omega, rfl⟩ ?_
 rintro n s ⟨i, hi, rfl, rfl⟩ K hK
 rcases Nat.lt_or_ge i l.length with hlt | hge
 ·have hdi : decide ((i : Int) < l.length) = true := by simpa using hlt
  simp (maxSteps := 2000000) only [go_sem, seval, hdi, getD_map hlt, encTEv, D.flat, wrap_succ hlt (le20 hl)]
  first | refine ⟨⟨by omega, by omega⟩, hlt, ?_⟩ | refine ⟨by omega, hlt, ?_⟩
  refine CallK_pure e70 (c70 l[i] (by have := sum_get sizTEv hlt; unfold sizTEvS at h; omega)) rfl ?_
  simp (maxSteps := 2000000) only [go_sem, seval, encTEv, D.flat, wrap_succ hlt (le20 hl)]
  repeat' ((with_reducible show _ /\ _); apply And.intro)
  all_goals first
   | (apply hK
      refine ⟨l.length - (i + 1), _, by omega, Ent.weak (ids := [0]) (by simp) rfl (by simp) ?_ ?_ ?_, i + 1, by omega, rfl, rfl⟩
      ·simp only [objsLe, St.obj, find, AObj.renF, if_true, Option.getD_some, List.getD_cons_zero, and_true]
       rw [<- take_set encTEv l _ hlt]
       exact ⟨by simp, Or.inr rfl⟩
      ·simp [objsLe, envLe, find, St.obj, AObj.renF, AV.renF, AV.renF1, Leaf.renF, LowAll, AV.Low, AV.Low1, Leaf.Low, AObj.Low, Ptr.renF, Ptr.Low]
      ·simp [objsLe, envLe, find, St.obj, AObj.renF, AV.renF, AV.renF1, Leaf.renF, LowAll, AV.Low, AV.Low1, Leaf.Low, AObj.Low, Ptr.renF, Ptr.Low])
   | omega
   | decide
   | (simp; done)
   | (simp; omega)
   | trivial
 ·have hge' : i = l.length := by omega
  subst hge'
  have hdi : decide ((l.length : Int) < l.length) = false := by simp
  refine sv3 ?_
  apply hK
  refine evl ?_
  refine Fin.nt results29 [0] ?_ ?_ ?_ <;> try trivial
  all_goals simp [objsLe, St.obj, find, AObj.renF]
theorem c9 (l l' : List TEv) (h0 : sizTEvS l <= 1048576) (h0' : sizTEvS l' <= 1048576) : Ctr prog 9 [.one (.dat (.sl 6 (l.map encTEv))), .one (.dat (.sl 6 (l'.map encTEv)))] [] (.one (.dat (.bool (decide (l = l'))))) [] := by
 have hl : l.length <= maxLen := (lokTEvS (by omega)).1
 have hl' : l'.length <= maxLen := (lokTEvS (by omega)).1
 refine Ctr.bd mixed func9 rfl ?_
 refine evl ?_
 constructor <;> intro h
 ·have hne : l.length ≠ l'.length := by simp at h; omega
  refine Fin.nt results9 [] ?_ ?_ ?_ <;> try trivial
  (refine rsl ?_; try exact .intro)
  symm; rw [decide_eq_false_iff_not]
  intro e; exact hne (by rw [e])
 have hlen : l.length = l'.length := by simp at h; omega
 refine LoopK_intro (fun n s => ∃ i : Nat, i <= l.length /\ n = l.length - i /\ l.take i = l'.take i /\ s = mkSt [(5, .one (.dat (.int .i64 i))), (1, .one (.dat (.sl 6 (l'.map encTEv)))), (0, .one (.dat (.sl 6 (l.map encTEv))))] []) l.length _
  (Ent.wk []) ⟨0, by omega, by omega, rfl, rfl⟩ ?_
 rintro n s ⟨i, hi, rfl, ht, rfl⟩ K hK
 rcases Nat.lt_or_ge i l.length with hlt | hge
 ·have hdi : decide ((i : Int) < l.length) = true := by simpa using hlt
  have hlt' : i < l'.length := by omega
  simp (maxSteps := 2000000) only [go_sem, seval, hdi, wrap_succ hlt hl, getD_map hlt, getD_map hlt', encTEv]
  refine ⟨⟨by omega, by omega⟩, hlt, ⟨by omega, by omega⟩, hlt', ?_⟩
  first
   | refine CCallK_intro e31 (fun _ => ⟨trivial, c31 l[i] l'[i] (by have := sum_get sizTEv hlt; unfold sizTEvS at h0; omega) (by have := sum_get sizTEv hlt'; unfold sizTEvS at h0'; omega)⟩) rfl rfl ?_
   | refine Or.inl (CCallK_intro e31 (fun _ => ⟨trivial, c31 l[i] l'[i] (by have := sum_get sizTEv hlt; unfold sizTEvS at h0; omega) (by have := sum_get sizTEv hlt'; unfold sizTEvS at h0'; omega)⟩) rfl rfl ?_)
  refine sv1 ?_
  constructor <;> intro h
  ·apply hK
   refine evl ?_
   refine Fin.nt results9 [] ?_ ?_ ?_ <;> try trivial
   (refine rsl ?_; try exact .intro)
   symm; rw [decide_eq_false_iff_not]
   rintro rfl; simp at h
  ·apply hK
   have he : l[i] = l'[i] := by simpa using h
   exact ⟨l.length - (i + 1), _, by omega, Ent.wk [], i + 1, by omega, rfl, by rw [List.take_succ_eq_append_getElem hlt, List.take_succ_eq_append_getElem hlt', ht, he], rfl⟩
 ·have hge' : i = l.length := by omega
  subst hge'
  have hdi : decide ((l.length : Int) < l.length) = false := by simp
  refine sv3 ?_
  apply hK
  refine evl ?_
  refine Fin.nt results9 [] ?_ ?_ ?_ <;> try trivial
  (refine rsl ?_; try exact .intro)
  symm; rw [decide_eq_true_iff]
  rw [List.take_of_length_le (Nat.le_refl _), List.take_of_length_le (by omega)] at ht
  exact ht
structure Table where
 Base : Base
 Bkts : List Bkt
 Jobs : List TJob
 Todo : List TQueue
 Log : List TEv
 Serial : Int
 deriving DecidableEq
def encTable (x : Table) : List D := [.sl 1 (x.Base.Mem.Heap.Bytes.map encI), .sl 1 (x.Base.Mem.Heap.Class.map encI), .sl 1 (x.Base.Mem.Lists.Global.map encSList), .sl 1 (x.Base.Mem.Lists.Own.map encSList), .int .i64 x.Base.Clock.Epoch, .sl 4 (x.Base.Clock.Pins.map encPin), .sl 1 (x.Base.Limbo.map encLList), .sl 1 (x.Base.Haz.map encI), .sl 3 (x.Bkts.map encBkt), .sl 32 (x.Jobs.map encTJob), .sl 1 (x.Todo.map encTQueue), .sl 6 (x.Log.map encTEv), .int .i64 x.Serial]
def Table.wf (x : Table) : Prop := x.Base.wf /\ (∀ y ∈ x.Bkts, y.wf) /\ (∀ y ∈ x.Jobs, y.wf) /\ (∀ y ∈ x.Todo, y.wf) /\ (∀ y ∈ x.Log, y.wf) /\ (Lit.int .i64 x.Serial).wf = true /\ True
theorem Table.eq_iff (x y : Table) : x = y ↔ x.Base = y.Base /\ x.Bkts = y.Bkts /\ x.Jobs = y.Jobs /\ x.Todo = y.Todo /\ x.Log = y.Log /\ x.Serial = y.Serial := by cases x; cases y; simp
def Table.lok (x : Table) : Prop := x.Base.lok /\ x.Bkts.length <= maxLen /\ x.Jobs.length <= maxLen /\ (∀ y ∈ x.Jobs, y.lok) /\ x.Todo.length <= maxLen /\ (∀ y ∈ x.Todo, y.lok) /\ x.Log.length <= maxLen /\ (∀ y ∈ x.Log, y.lok) /\ True
def sizTable (x : Table) : Nat := sizBase x.Base + x.Bkts.length + sizTJobS x.Jobs + sizTQueueS x.Todo + sizTEvS x.Log
def sizTableS (l : List Table) : Nat := l.length + (l.map sizTable).sum
def zeroTable : Table := ⟨zeroBase, [], [], [], [], 0⟩
theorem decTable (n : Nat) (ds : List D) (h : WT prog n 41 ds) : ∃ x : Table, ds = encTable x /\ x.wf /\ x.lok := by
 cases n with
 | zero => exact h.elim
 | succ n =>
  unfold WT at h
  rw [underlying41] at h
  simp only [List.toList_toArray, List.map_cons, List.map_nil, WTs] at h
  obtain ⟨_, _, rfl, h0, ⟨_, _, rfl, h1, ⟨_, _, rfl, h2, ⟨_, _, rfl, h3, ⟨_, _, rfl, h4, ⟨_, _, rfl, h5, rfl⟩⟩⟩⟩⟩⟩ := h
  obtain ⟨x0, rfl, w0, k0⟩ := decBase _ _ h0
  obtain ⟨x1, rfl, c1, w1⟩ := decSl (enc := encBkt) (q := fun x => x.wf /\ x.lok) underlying36 tc_139 decBkt h1
  obtain ⟨x2, rfl, c2, w2⟩ := decSl (enc := encTJob) (q := fun x => x.wf /\ x.lok) underlying37 tc_126 decTJob h2
  obtain ⟨x3, rfl, c3, w3⟩ := decSl (enc := encTQueue) (q := fun x => x.wf /\ x.lok) underlying38 tc_100 decTQueue h3
  obtain ⟨x4, rfl, c4, w4⟩ := decSl (enc := encTEv) (q := fun x => x.wf /\ x.lok) underlying39 tc_129 decTEv h4
  obtain ⟨x5, rfl, w5⟩ := decInt underlying3 h5
  exact ⟨⟨x0, x1, x2, x3, x4, x5⟩, rfl, ⟨w0, fun y hy => (w1 y hy).1, fun y hy => (w2 y hy).1, fun y hy => (w3 y hy).1, fun y hy => (w4 y hy).1, w5, trivial⟩, ⟨k0, c1, c2, fun y hy => (w2 y hy).2, c3, fun y hy => (w3 y hy).2, c4, fun y hy => (w4 y hy).2, trivial⟩⟩
theorem c5 (x : Table) (hk : x.lok) (left : Int) (h0 : 0 <= left) (h1 : left <= 1048576) : Ctr prog 5 [.agg ((encTable x).map .dat), .one (.dat (.int .i64 left))] [] (.one (.dat (.int .i64 (szL left (sizTable x))))) [] := by
 simp only [encTable, List.map_cons, List.map_nil]
 unfold sizTable
 refine Ctr.bd mixed func5 rfl ?_
 refine evl ?_
 obtain ⟨kBase, kBkts, kJobs, qJobs, kTodo, qTodo, kLog, qLog, _⟩ := hk
 refine CallK_pure e21 (c21 x.Base kBase left h0 h1) rfl ?_
 refine evl ?_
 constructor <;> intro h
 ·refine Fin.nt results5 [] ?_ ?_ ?_ <;> try trivial
  (refine rsl ?_; try exact .intro)
  try simp only [List.length_map] at h
  exact szL_bad (h) (by omega)
 try simp only [List.length_map] at h
 have a0 : decide (szL left (sizBase x.Base) < 0) = false := h
 obtain ⟨_, _, g0, u0⟩ := szL_le h1 a0
 try simp only [List.length_map]
 refine CallK_pure e22 (c22 (x.Bkts.map encBkt) (szL left (sizBase x.Base)) g0 u0 (by simpa using kBkts)) rfl ?_
 refine evl ?_
 constructor <;> intro h
 ·refine Fin.nt results5 [] ?_ ?_ ?_ <;> try trivial
  (refine rsl ?_; try exact .intro)
  try simp only [List.length_map] at h
  exact szL_bad (szL_at h0 a0 ▸ h) (by omega)
 try simp only [List.length_map] at h
 have a1 : decide (szL left (sizBase x.Base + x.Bkts.length) < 0) = false := szL_at h0 a0 ▸ h
 obtain ⟨_, _, g1, u1⟩ := szL_le h1 a1
 try simp only [List.length_map]
 rw [szL_at h0 a0]
 refine CallK_pure e23 (c23 x.Jobs kJobs qJobs (szL left (sizBase x.Base + x.Bkts.length)) g1 u1) rfl ?_
 refine evl ?_
 constructor <;> intro h
 ·refine Fin.nt results5 [] ?_ ?_ ?_ <;> try trivial
  (refine rsl ?_; try exact .intro)
  try simp only [List.length_map] at h
  exact szL_bad (szL_at h0 a1 ▸ h) (by omega)
 try simp only [List.length_map] at h
 have a2 : decide (szL left (sizBase x.Base + x.Bkts.length + sizTJobS x.Jobs) < 0) = false := szL_at h0 a1 ▸ h
 obtain ⟨_, _, g2, u2⟩ := szL_le h1 a2
 try simp only [List.length_map]
 rw [szL_at h0 a1]
 refine CallK_pure e14 (c14 x.Todo kTodo qTodo (szL left (sizBase x.Base + x.Bkts.length + sizTJobS x.Jobs)) g2 u2) rfl ?_
 refine evl ?_
 constructor <;> intro h
 ·refine Fin.nt results5 [] ?_ ?_ ?_ <;> try trivial
  (refine rsl ?_; try exact .intro)
  try simp only [List.length_map] at h
  exact szL_bad (szL_at h0 a2 ▸ h) (by omega)
 try simp only [List.length_map] at h
 have a3 : decide (szL left (sizBase x.Base + x.Bkts.length + sizTJobS x.Jobs + sizTQueueS x.Todo) < 0) = false := szL_at h0 a2 ▸ h
 obtain ⟨_, _, g3, u3⟩ := szL_le h1 a3
 try simp only [List.length_map]
 rw [szL_at h0 a2]
 refine CallK_pure e24 (c24 x.Log kLog qLog (szL left (sizBase x.Base + x.Bkts.length + sizTJobS x.Jobs + sizTQueueS x.Todo)) g3 u3) rfl ?_
 refine evl ?_
 constructor <;> intro h
 ·refine Fin.nt results5 [] ?_ ?_ ?_ <;> try trivial
  (refine rsl ?_; try exact .intro)
  try simp only [List.length_map] at h
  exact szL_bad (szL_at h0 a3 ▸ h) (by omega)
 try simp only [List.length_map] at h
 have a4 : decide (szL left (sizBase x.Base + x.Bkts.length + sizTJobS x.Jobs + sizTQueueS x.Todo + sizTEvS x.Log) < 0) = false := szL_at h0 a3 ▸ h
 refine Fin.nt results5 [] ?_ ?_ ?_ <;> try trivial
 all_goals try ((refine rsl ?_; try exact .intro))
 all_goals try simp only [List.length_map]
 all_goals try exact szL_at h0 a3
theorem c7 (x : Table) (h : sizTable x <= 1048576) : Ctr prog 7 [.agg ((encTable x).map .dat)] [] (.agg [.own 0, .own 1, .own 2, .own 3, .dat (.int .i64 x.Base.Clock.Epoch), .own 4, .own 5, .own 6, .own 7, .own 8, .own 9, .own 10, .dat (.int .i64 x.Serial)]) [.vec 1 true (x.Base.Mem.Heap.Bytes.map encI), .vec 1 true (x.Base.Mem.Heap.Class.map encI), .vec 1 true (x.Base.Mem.Lists.Global.map encSList), .vec 1 true (x.Base.Mem.Lists.Own.map encSList), .vec 4 true (x.Base.Clock.Pins.map encPin), .vec 1 true (x.Base.Limbo.map encLList), .vec 1 true (x.Base.Haz.map encI), .vec 3 true (x.Bkts.map encBkt), .vec 32 true (x.Jobs.map encTJob), .vec 1 true (x.Todo.map encTQueue), .vec 6 true (x.Log.map encTEv)] := by
 simp only [encTable, List.map_cons, List.map_nil]
 unfold sizTable at h
 refine Ctr.bd mixed func7 rfl ?_
 refine evl ?_
 refine CallK_pure e26 (c26 x.Base (by omega)) rfl ?_
 refine evl ?_
 refine CallK_pure e27 (c27 x.Bkts (by omega)) rfl ?_
 refine evl ?_
 refine CallK_pure e28 (c28 x.Jobs (by omega)) rfl ?_
 refine evl ?_
 refine CallK_pure e16 (c16 x.Todo (by omega)) rfl ?_
 refine evl ?_
 refine CallK_pure e29 (c29 x.Log (by omega)) rfl ?_
 refine evl ?_
 first | ((refine Fin.nt results7 [3, 4, 5, 6, 7, 8, 9, 10, 11, 12, 13] ?_ ?_ ?_ <;> try trivial) <;> (first | rfl | exact entd); done) | ((refine Fin.nt results7 [2, 3, 4, 5, 6, 7, 8, 9, 10, 11, 12] ?_ ?_ ?_ <;> try trivial) <;> (first | rfl | exact entd); done) | ((refine Fin.nt results7 [1, 2, 3, 4, 5, 6, 7, 8, 9, 10, 11] ?_ ?_ ?_ <;> try trivial) <;> (first | rfl | exact entd); done) | ((refine Fin.nt results7 [0, 1, 2, 3, 4, 5, 6, 7, 8, 9, 10] ?_ ?_ ?_ <;> try trivial) <;> (first | rfl | exact entd); done) | ((refine Fin.nt results7 [4, 5, 6, 7, 8, 9, 10, 11, 12, 13, 14] ?_ ?_ ?_ <;> try trivial) <;> (first | rfl | exact entd); done) | ((refine Fin.nt results7 [5, 6, 7, 8, 9, 10, 11, 12, 13, 14, 15] ?_ ?_ ?_ <;> try trivial) <;> (first | rfl | exact entd); done)
theorem c10 (x y : Table) (hx : sizTable x <= 1048576) (hy : sizTable y <= 1048576) : Ctr prog 10 [.agg ((encTable x).map .dat), .agg ((encTable y).map .dat)] [] (.one (.dat (.bool (decide (x = y))))) [] := by
 simp only [encTable, List.map_cons, List.map_nil]
 unfold sizTable at hx hy
 have hm : maxLen = 9223372036854775807 := rfl
 refine Ctr.bd mixed func10 rfl ?_
 refine evl ?_
 refine ck e32 (c32 x.Base y.Base (by omega) (by omega)) rfl ?_
 refine evl ?_
 constructor <;> intro h
 ·refine Fin.nt results10 [] ?_ ?_ ?_ <;> try trivial
  (refine rsl ?_; try exact .intro)
  simp_all [Table.eq_iff]
 have eBase := h; clear h
 refine ck e33 (c33 x.Bkts y.Bkts (by omega) (by omega)) rfl ?_
 refine evl ?_
 constructor <;> intro h
 ·refine Fin.nt results10 [] ?_ ?_ ?_ <;> try trivial
  (refine rsl ?_; try exact .intro)
  simp_all [Table.eq_iff]
 have eBkts := h; clear h
 refine ck e34 (c34 x.Jobs y.Jobs (by omega) (by omega)) rfl ?_
 refine evl ?_
 constructor <;> intro h
 ·refine Fin.nt results10 [] ?_ ?_ ?_ <;> try trivial
  (refine rsl ?_; try exact .intro)
  simp_all [Table.eq_iff]
 have eJobs := h; clear h
 refine ck e18 (c18 x.Todo y.Todo (by omega) (by omega)) rfl ?_
 refine evl ?_
 constructor <;> intro h
 ·refine Fin.nt results10 [] ?_ ?_ ?_ <;> try trivial
  (refine rsl ?_; try exact .intro)
  simp_all [Table.eq_iff]
 have eTodo := h; clear h
 refine ck e9 (c9 x.Log y.Log (by omega) (by omega)) rfl ?_
 refine evl ?_
 constructor <;> intro h
 ·refine Fin.nt results10 [] ?_ ?_ ?_ <;> try trivial
  (refine rsl ?_; try exact .intro)
  simp_all [Table.eq_iff]
 have eLog := h; clear h
 constructor <;> intro h
 ·refine Fin.nt results10 [] ?_ ?_ ?_ <;> try trivial
  (refine rsl ?_; try exact .intro)
  simp_all [Table.eq_iff]
 have eSerial := h; clear h
 refine Fin.nt results10 [] ?_ ?_ ?_ <;> try trivial
 (refine rsl ?_; try exact .intro)
 simp_all [Table.eq_iff]
end Go.Proofs.YtldpopbnlmoamaaGreat.Mod
