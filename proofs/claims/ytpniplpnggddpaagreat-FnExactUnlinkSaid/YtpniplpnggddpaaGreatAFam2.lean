/- Contracts: Fam2. -/
import Derived.Test.YtpniplpnggddpaaGreatRows
import Derived.Test.YtpniplpnggddpaaGreatATy
import Derived.Test.YtpniplpnggddpaaGreatAbsTac
import Derived.Test.YtpniplpnggddpaaGreatAbsData
import Derived.Test.YtpniplpnggddpaaGreatAFam
import Derived.WalkKit
import Derived.ProofKit
import Derived.OpenShut
namespace Go.Proofs.YtpniplpnggddpaaGreat.Mod
open Go.Proofs.Tryz Go.Abs Go.Proofs.YtpniplpnggddpaaGreat.Ty Go.ChangeShapes Go.WideShapes Go.ChangeAt Go.RowKit
set_option linter.unusedSimpArgs false
set_option linter.unusedVariables false
set_option maxHeartbeats 8000000
set_option maxRecDepth 100000
def encI (x : Int) : List D := [.int .i64 x]
theorem sum_get {α : Type} (f : α -> Nat) : ∀ {l : List α} {i : Nat} (h : i < l.length), f l[i] <= (l.map f).sum
 | x :: l, 0, _ => by simp
 | x :: l, i + 1, h => by
  have := sum_get f (l := l) (i := i) (by simpa using h)
  simp; omega
theorem sum_mem {α : Type} (f : α -> Nat) {l : List α} {x : α} (h : x ∈ l) : f x <= (l.map f).sum := by
 obtain ⟨i, hi, rfl⟩ := List.getElem_of_mem h
 exact sum_get f hi
theorem sum_take_succ {α : Type} (f : α -> Nat) {l : List α} {i : Nat} (h : i < l.length) : ((l.take (i + 1)).map f).sum = ((l.take i).map f).sum + f l[i] := by
 rw [List.take_succ_eq_append_getElem h, List.map_append, List.sum_append]; simp
theorem sum_take_le {α : Type} (f : α -> Nat) (l : List α) (i : Nat) : ((l.take i).map f).sum <= (l.map f).sum := by
 conv => rhs; rw [<- List.take_append_drop i l, List.map_append, List.sum_append]
 omega
theorem szL_raw {left : Int} {n : Nat} : decide (szL left n < 0) = decide (left - n < 0) := by
 unfold szL; split <;> simp <;> omega
theorem szL_at {left : Int} {a b : Nat} (h0 : 0 <= left) (h : decide (szL left a < 0) = false) : szL (szL left a) b = szL left (a + b) := by
 unfold szL at h ⊢
 split at h
 ·simp at h
 ·rename_i hn
  rw [if_neg hn]
  by_cases h2 : left - (a + b : Nat) < 0
  ·rw [if_pos h2, if_pos (by omega)]
  ·rw [if_neg h2, if_neg (by omega)]; omega
theorem szL_bad {left : Int} {a t : Nat} (h : decide (szL left a < 0) = true) (ht : a <= t) : (-1 : Int) = szL left t := by
 rw [szL_raw] at h
 simp at h
 unfold szL
 rw [if_pos (by omega)]
theorem c58 (rows : List (List D)) (left : Int) (h0 : 0 <= left) (h1 : left <= 1048576) (hl : rows.length <= maxLen) : Ctr prog 58 [.one (.dat (.sl 1 rows)), .one (.dat (.int .i64 left))] [] (.one (.dat (.int .i64 (szL left rows.length)))) [] := by
 have hw := szL_wrap h0 h1 hl
 refine Ctr.bd mixed func58 rfl ?_
 refine sv0 ?_
 repeat' first
  | ((with_reducible show Abs.Fin _ _ _ _ _ _); refine Fin.nt results58 [] ?_ ?_ ?_ <;> try trivial)
  | with_reducible intro h
  | ((with_reducible show _ /\ _); apply And.intro)
 all_goals try ((refine rsl ?_; try exact .intro))
 all_goals simp_all [szL]
 all_goals omega
theorem c74 (l : List Int) (h : l.length <= 1048576) : Ctr prog 74 [.one (.dat (.sl 1 (l.map encI)))] [] (.one (.own 0)) [.vec 1 true (l.map encI)] := by
 have hl : l.length <= 1048576 := by omega
 refine Ctr.bd mixed func74 rfl ?_
 refine evl ?_
 refine ⟨by omega, ?_⟩
 refine LoopK_intro (fun n s => ∃ i : Nat, i <= l.length /\ n = l.length - i /\ s = mkSt [(4, .one (.dat (.int .i64 i))), (3, .one (.own 0)), (0, .one (.dat (.sl 1 (l.map encI))))]
   [.vec 1 true ((l.take i).map encI ++ List.replicate (l.length - i) [.int .i64 0])]) l.length _
  (Ent.wk [0]) ⟨0, by omega, by omega, rfl⟩ ?_
 rintro n s ⟨i, hi, rfl, rfl⟩ K hK
 rcases Nat.lt_or_ge i l.length with hlt | hge
 ·have hdi : decide ((i : Int) < l.length) = true := by simpa using hlt
  simp (maxSteps := 2000000) only [go_sem, seval, hdi, getD_map hlt, encI, D.flat, wrap_succ hlt (le20 hl)]
  first | refine ⟨⟨by omega, by omega⟩, hlt, ?_⟩ | refine ⟨by omega, hlt, ?_⟩
  repeat' ((with_reducible show _ /\ _); apply And.intro)
  all_goals first
   | (apply hK
      refine ⟨l.length - (i + 1), _, by omega, Ent.weak (ids := [0]) (by simp) rfl (by simp) ?_ ?_ ?_, i + 1, by omega, rfl, rfl⟩
      ·simp only [objsLe, St.obj, find, AObj.renF, if_true, Option.getD_some, List.getD_cons_zero, and_true]
       rw [<- take_set encI l _ hlt]
       exact ⟨by simp, Or.inr rfl⟩
      ·simp [objsLe, envLe, find, St.obj, AObj.renF, AV.renF, AV.renF1, Leaf.renF, LowAll, AV.Low, AV.Low1, Leaf.Low, AObj.Low, Ptr.renF, Ptr.Low]
      ·simp [objsLe, envLe, find, St.obj, AObj.renF, AV.renF, AV.renF1, Leaf.renF, LowAll, AV.Low, AV.Low1, Leaf.Low, AObj.Low, Ptr.renF, Ptr.Low])
   | omega
   | decide
   | (simp; done)
   | (simp; omega)
   | trivial
 ·have hge' : i = l.length := by omega
  subst hge'
  have hdi : decide ((l.length : Int) < l.length) = false := by simp
  refine sv1 ?_
  apply hK
  refine evl ?_
  refine Fin.nt results74 [0] ?_ ?_ ?_ <;> try trivial
  all_goals simp [objsLe, St.obj, find, AObj.renF]
theorem c87 (l l' : List Int) (hl : l.length <= maxLen) (hl' : l'.length <= maxLen) : Ctr prog 87 [.one (.dat (.sl 1 (l.map encI))), .one (.dat (.sl 1 (l'.map encI)))] [] (.one (.dat (.bool (decide (l = l'))))) [] := by
 refine Ctr.bd mixed func87 rfl ?_
 refine evl ?_
 constructor <;> intro h
 ·have hne : l.length ≠ l'.length := by simp at h; omega
  refine Fin.nt results87 [] ?_ ?_ ?_ <;> try trivial
  (refine rsl ?_; try exact .intro)
  symm; rw [decide_eq_false_iff_not]
  intro e; exact hne (by rw [e])
 have hlen : l.length = l'.length := by simp at h; omega
 refine LoopK_intro (fun n s => ∃ i : Nat, i <= l.length /\ n = l.length - i /\ l.take i = l'.take i /\ s = mkSt [(5, .one (.dat (.int .i64 i))), (1, .one (.dat (.sl 1 (l'.map encI)))), (0, .one (.dat (.sl 1 (l.map encI))))] []) l.length _
  (Ent.wk []) ⟨0, by omega, by omega, rfl, rfl⟩ ?_
 rintro n s ⟨i, hi, rfl, ht, rfl⟩ K hK
 rcases Nat.lt_or_ge i l.length with hlt | hge
 ·have hdi : decide ((i : Int) < l.length) = true := by simpa using hlt
  have hlt' : i < l'.length := by omega
  simp (maxSteps := 2000000) only [go_sem, seval, hdi, wrap_succ hlt hl, getD_map hlt, getD_map hlt', encI]
  refine ⟨⟨by omega, by omega⟩, hlt, ⟨by omega, by omega⟩, hlt', ?_⟩
  constructor <;> intro h
  ·apply hK
   refine evl ?_
   refine Fin.nt results87 [] ?_ ?_ ?_ <;> try trivial
   (refine rsl ?_; try exact .intro)
   symm; rw [decide_eq_false_iff_not]
   rintro rfl; simp at h
  ·apply hK
   have he : l[i] = l'[i] := by simpa using h
   exact ⟨l.length - (i + 1), _, by omega, Ent.wk [], i + 1, by omega, rfl, by rw [List.take_succ_eq_append_getElem hlt, List.take_succ_eq_append_getElem hlt', ht, he], rfl⟩
 ·have hge' : i = l.length := by omega
  subst hge'
  have hdi : decide ((l.length : Int) < l.length) = false := by simp
  refine sv1 ?_
  apply hK
  refine evl ?_
  refine Fin.nt results87 [] ?_ ?_ ?_ <;> try trivial
  (refine rsl ?_; try exact .intro)
  symm; rw [decide_eq_true_iff]
  rw [List.take_of_length_le (Nat.le_refl _), List.take_of_length_le (by omega)] at ht
  exact ht
structure Heap where
 Bytes : List Int
 Class : List Int
 deriving DecidableEq
def encHeap (x : Heap) : List D := [.sl 1 (x.Bytes.map encI), .sl 1 (x.Class.map encI)]
def Heap.wf (x : Heap) : Prop := (∀ y ∈ x.Bytes, (Lit.int .i64 y).wf = true) /\ (∀ y ∈ x.Class, (Lit.int .i64 y).wf = true) /\ True
theorem Heap.eq_iff (x y : Heap) : x = y ↔ x.Bytes = y.Bytes /\ x.Class = y.Class := by cases x; cases y; simp
def Heap.lok (x : Heap) : Prop := x.Bytes.length <= maxLen /\ x.Class.length <= maxLen /\ True
def sizHeap (x : Heap) : Nat := x.Bytes.length + x.Class.length
def sizHeapS (l : List Heap) : Nat := l.length + (l.map sizHeap).sum
def zeroHeap : Heap := ⟨[], []⟩
theorem decHeap (n : Nat) (ds : List D) (h : WT prog n 24 ds) : ∃ x : Heap, ds = encHeap x /\ x.wf /\ x.lok := by
 cases n with
 | zero => exact h.elim
 | succ n =>
  unfold WT at h
  rw [underlying24] at h
  simp only [List.toList_toArray, List.map_cons, List.map_nil, WTs] at h
  obtain ⟨_, _, rfl, h0, ⟨_, _, rfl, h1, rfl⟩⟩ := h
  obtain ⟨x0, rfl, c0, w0⟩ := decSl (enc := encI) (q := fun x => (Lit.int .i64 x).wf = true) underlying22 tc_3 (fun _ _ h => decInt underlying3 h) h0
  obtain ⟨x1, rfl, c1, w1⟩ := decSl (enc := encI) (q := fun x => (Lit.int .i64 x).wf = true) underlying22 tc_3 (fun _ _ h => decInt underlying3 h) h1
  exact ⟨⟨x0, x1⟩, rfl, ⟨w0, w1, trivial⟩, ⟨c0, c1, trivial⟩⟩
theorem Heap.lok_of {x : Heap} (h : sizHeap x <= 16777216) : x.lok := by
 have hm : maxLen = 9223372036854775807 := rfl
 unfold sizHeap at h
 exact ⟨by omega, by omega, trivial⟩
theorem lokHeapS {l : List Heap} (h : sizHeapS l <= 16777216) : l.length <= maxLen /\ ∀ y ∈ l, y.lok := by
 have hm : maxLen = 9223372036854775807 := rfl
 unfold sizHeapS at h
 exact ⟨by omega, fun y hy => Heap.lok_of (by have := sum_mem sizHeap hy; omega)⟩
theorem c23 (x : Heap) (hk : x.lok) (left : Int) (h0 : 0 <= left) (h1 : left <= 1048576) : Ctr prog 23 [.agg ((encHeap x).map .dat), .one (.dat (.int .i64 left))] [] (.one (.dat (.int .i64 (szL left (sizHeap x))))) [] := by
 simp only [encHeap, List.map_cons, List.map_nil]
 unfold sizHeap
 refine Ctr.bd mixed func23 rfl ?_
 refine evl ?_
 obtain ⟨kBytes, kClass, _⟩ := hk
 refine CallK_pure e58 (c58 (x.Bytes.map encI) left h0 h1 (by simpa using kBytes)) rfl ?_
 refine evl ?_
 constructor <;> intro h
 ·refine Fin.nt results23 [] ?_ ?_ ?_ <;> try trivial
  (refine rsl ?_; try exact .intro)
  try simp only [List.length_map] at h
  exact szL_bad (h) (by omega)
 try simp only [List.length_map] at h
 have a0 : decide (szL left (x.Bytes.length) < 0) = false := h
 obtain ⟨_, _, g0, u0⟩ := szL_le h1 a0
 try simp only [List.length_map]
 refine CallK_pure e58 (c58 (x.Class.map encI) (szL left (x.Bytes.length)) g0 u0 (by simpa using kClass)) rfl ?_
 refine evl ?_
 constructor <;> intro h
 ·refine Fin.nt results23 [] ?_ ?_ ?_ <;> try trivial
  (refine rsl ?_; try exact .intro)
  try simp only [List.length_map] at h
  exact szL_bad (szL_at h0 a0 ▸ h) (by omega)
 try simp only [List.length_map] at h
 have a1 : decide (szL left (x.Bytes.length + x.Class.length) < 0) = false := szL_at h0 a0 ▸ h
 refine Fin.nt results23 [] ?_ ?_ ?_ <;> try trivial
 all_goals try ((refine rsl ?_; try exact .intro))
 all_goals try simp only [List.length_map]
 all_goals try exact szL_at h0 a0
theorem c31 (x : Heap) (h : sizHeap x <= 1048576) : Ctr prog 31 [.agg ((encHeap x).map .dat)] [] (.agg [.own 0, .own 1]) [.vec 1 true (x.Bytes.map encI), .vec 1 true (x.Class.map encI)] := by
 simp only [encHeap, List.map_cons, List.map_nil]
 unfold sizHeap at h
 refine Ctr.bd mixed func31 rfl ?_
 refine evl ?_
 refine CallK_pure e74 (c74 x.Bytes (by omega)) rfl ?_
 refine evl ?_
 refine CallK_pure e74 (c74 x.Class (by omega)) rfl ?_
 refine evl ?_
 first | ((refine Fin.nt results31 [3, 4] ?_ ?_ ?_ <;> try trivial) <;> (first | rfl | exact entd); done) | ((refine Fin.nt results31 [2, 3] ?_ ?_ ?_ <;> try trivial) <;> (first | rfl | exact entd); done) | ((refine Fin.nt results31 [1, 2] ?_ ?_ ?_ <;> try trivial) <;> (first | rfl | exact entd); done) | ((refine Fin.nt results31 [0, 1] ?_ ?_ ?_ <;> try trivial) <;> (first | rfl | exact entd); done) | ((refine Fin.nt results31 [4, 5] ?_ ?_ ?_ <;> try trivial) <;> (first | rfl | exact entd); done) | ((refine Fin.nt results31 [5, 6] ?_ ?_ ?_ <;> try trivial) <;> (first | rfl | exact entd); done)
theorem c40 (x y : Heap) (hx : sizHeap x <= 1048576) (hy : sizHeap y <= 1048576) : Ctr prog 40 [.agg ((encHeap x).map .dat), .agg ((encHeap y).map .dat)] [] (.one (.dat (.bool (decide (x = y))))) [] := by
 simp only [encHeap, List.map_cons, List.map_nil]
 unfold sizHeap at hx hy
 have hm : maxLen = 9223372036854775807 := rfl
 refine Ctr.bd mixed func40 rfl ?_
 refine evl ?_
 refine ck e87 (c87 x.Bytes y.Bytes (by omega) (by omega)) rfl ?_
 refine evl ?_
 constructor <;> intro h
 ·refine Fin.nt results40 [] ?_ ?_ ?_ <;> try trivial
  (refine rsl ?_; try exact .intro)
  simp_all [Heap.eq_iff]
 have eBytes := h; clear h
 refine ck e87 (c87 x.Class y.Class (by omega) (by omega)) rfl ?_
 refine evl ?_
 constructor <;> intro h
 ·refine Fin.nt results40 [] ?_ ?_ ?_ <;> try trivial
  (refine rsl ?_; try exact .intro)
  simp_all [Heap.eq_iff]
 have eClass := h; clear h
 refine Fin.nt results40 [] ?_ ?_ ?_ <;> try trivial
 (refine rsl ?_; try exact .intro)
 simp_all [Heap.eq_iff]
structure SList where
 Slots : List Int
 deriving DecidableEq
def encSList (x : SList) : List D := [.sl 1 (x.Slots.map encI)]
def SList.wf (x : SList) : Prop := (∀ y ∈ x.Slots, (Lit.int .i64 y).wf = true) /\ True
theorem SList.eq_iff (x y : SList) : x = y ↔ x.Slots = y.Slots := by cases x; cases y; simp
def SList.lok (x : SList) : Prop := x.Slots.length <= maxLen /\ True
def sizSList (x : SList) : Nat := x.Slots.length
def sizSListS (l : List SList) : Nat := l.length + (l.map sizSList).sum
def zeroSList : SList := ⟨[]⟩
theorem decSList (n : Nat) (ds : List D) (h : WT prog n 105 ds) : ∃ x : SList, ds = encSList x /\ x.wf /\ x.lok := by
 cases n with
 | zero => exact h.elim
 | succ n =>
  unfold WT at h
  rw [underlying105] at h
  simp only [List.toList_toArray, List.map_cons, List.map_nil, WTs] at h
  obtain ⟨_, _, rfl, h0, rfl⟩ := h
  obtain ⟨x0, rfl, c0, w0⟩ := decSl (enc := encI) (q := fun x => (Lit.int .i64 x).wf = true) underlying22 tc_3 (fun _ _ h => decInt underlying3 h) h0
  exact ⟨⟨x0⟩, rfl, ⟨w0, trivial⟩, ⟨c0, trivial⟩⟩
theorem SList.lok_of {x : SList} (h : sizSList x <= 16777216) : x.lok := by
 have hm : maxLen = 9223372036854775807 := rfl
 unfold sizSList at h
 exact ⟨by omega, trivial⟩
theorem lokSListS {l : List SList} (h : sizSListS l <= 16777216) : l.length <= maxLen /\ ∀ y ∈ l, y.lok := by
 have hm : maxLen = 9223372036854775807 := rfl
 unfold sizSListS at h
 exact ⟨by omega, fun y hy => SList.lok_of (by have := sum_mem sizSList hy; omega)⟩
theorem c98 (x : SList) (hk : x.lok) (left : Int) (h0 : 0 <= left) (h1 : left <= 1048576) : Ctr prog 98 [.agg ((encSList x).map .dat), .one (.dat (.int .i64 left))] [] (.one (.dat (.int .i64 (szL left (sizSList x))))) [] := by
 simp only [encSList, List.map_cons, List.map_nil]
 unfold sizSList
 refine Ctr.bd mixed func98 rfl ?_
 refine evl ?_
 obtain ⟨kSlots, _⟩ := hk
 refine CallK_pure e58 (c58 (x.Slots.map encI) left h0 h1 (by simpa using kSlots)) rfl ?_
 refine evl ?_
 constructor <;> intro h
 ·refine Fin.nt results98 [] ?_ ?_ ?_ <;> try trivial
  (refine rsl ?_; try exact .intro)
  try simp only [List.length_map] at h
  exact szL_bad (h) (by omega)
 try simp only [List.length_map] at h
 have a0 : decide (szL left (x.Slots.length) < 0) = false := h
 refine Fin.nt results98 [] ?_ ?_ ?_ <;> try trivial
 all_goals try ((refine rsl ?_; try exact .intro))
 all_goals try simp only [List.length_map]
theorem c110 (x : SList) (h : sizSList x <= 1048576) : Ctr prog 110 [.agg ((encSList x).map .dat)] [] (.agg [.own 0]) [.vec 1 true (x.Slots.map encI)] := by
 simp only [encSList, List.map_cons, List.map_nil]
 unfold sizSList at h
 refine Ctr.bd mixed func110 rfl ?_
 refine evl ?_
 refine CallK_pure e74 (c74 x.Slots (by omega)) rfl ?_
 refine evl ?_
 first | ((refine Fin.nt results110 [3] ?_ ?_ ?_ <;> try trivial) <;> (first | rfl | exact entd); done) | ((refine Fin.nt results110 [2] ?_ ?_ ?_ <;> try trivial) <;> (first | rfl | exact entd); done) | ((refine Fin.nt results110 [1] ?_ ?_ ?_ <;> try trivial) <;> (first | rfl | exact entd); done) | ((refine Fin.nt results110 [0] ?_ ?_ ?_ <;> try trivial) <;> (first | rfl | exact entd); done) | ((refine Fin.nt results110 [4] ?_ ?_ ?_ <;> try trivial) <;> (first | rfl | exact entd); done) | ((refine Fin.nt results110 [5] ?_ ?_ ?_ <;> try trivial) <;> (first | rfl | exact entd); done)
theorem c120 (x y : SList) (hx : sizSList x <= 1048576) (hy : sizSList y <= 1048576) : Ctr prog 120 [.agg ((encSList x).map .dat), .agg ((encSList y).map .dat)] [] (.one (.dat (.bool (decide (x = y))))) [] := by
 simp only [encSList, List.map_cons, List.map_nil]
 unfold sizSList at hx hy
 have hm : maxLen = 9223372036854775807 := rfl
 refine Ctr.bd mixed func120 rfl ?_
 refine evl ?_
 refine ck e87 (c87 x.Slots y.Slots (by omega) (by omega)) rfl ?_
 refine evl ?_
 constructor <;> intro h
 ·refine Fin.nt results120 [] ?_ ?_ ?_ <;> try trivial
  (refine rsl ?_; try exact .intro)
  simp_all [SList.eq_iff]
 have eSlots := h; clear h
 refine Fin.nt results120 [] ?_ ?_ ?_ <;> try trivial
 (refine rsl ?_; try exact .intro)
 simp_all [SList.eq_iff]
theorem c59 (l : List SList) (hl : l.length <= maxLen) (hk : ∀ y ∈ l, y.lok) (left : Int) (h0 : 0 <= left) (h1 : left <= 1048576) : Ctr prog 59 [.one (.dat (.sl 1 (l.map encSList))), .one (.dat (.int .i64 left))] [] (.one (.dat (.int .i64 (szL left (sizSListS l))))) [] := by
 have hw := szL_wrap h0 h1 hl
 unfold sizSListS
 refine Ctr.bd mixed func59 rfl ?_
 refine sv0 ?_
 constructor <;> intro h
 ·refine Fin.nt results59 [] ?_ ?_ ?_ <;> try trivial
  (refine rsl ?_; try exact .intro)
  exact szL_bad (left := left) (a := l.length) (by rw [szL_raw]; exact h) (by omega)
 have a0 : decide (szL left l.length < 0) = false := by rw [szL_raw]; exact h
 have e0 : left - (l.length : Int) = szL left (l.length + ((l.take 0).map sizSList).sum) := by
  have := (szL_le h1 a0).2.1; simp; exact this.symm
 rw [e0]
 refine LoopK_intro (fun n s => ∃ i : Nat, i <= l.length /\ n = l.length - i /\ decide (szL left (l.length + ((l.take i).map sizSList).sum) < 0) = false /\ s = mkSt [(5, .one (.dat (.int .i64 i))), (1, .one (.dat (.int .i64 (szL left (l.length + ((l.take i).map sizSList).sum))))), (0, .one (.dat (.sl 1 (l.map encSList))))] []) l.length _
  (Ent.wk []) ⟨0, by omega, by omega, by simpa using a0, rfl⟩ ?_
 rintro n s ⟨i, hi, rfl, ht, rfl⟩ K hK
 rcases Nat.lt_or_ge i l.length with hlt | hge
 ·have hdi : decide ((i : Int) < l.length) = true := by simpa using hlt
  have hwi := wrap_succ hlt hl
  have hs := sum_take_succ sizSList hlt
  have hs2 := sum_take_le sizSList l (i + 1)
  obtain ⟨_, _, g, u⟩ := szL_le h1 ht
  simp (maxSteps := 2000000) only [go_sem, seval, hdi, hwi, getD_map hlt, encSList]
  refine ⟨⟨by omega, by omega⟩, hlt, ?_⟩
  refine CallK_pure e98 (c98 l[i] (hk _ (List.getElem_mem hlt)) _ g u) rfl ?_
  simp (maxSteps := 2000000) only [go_sem, seval, hwi, szL_at h0 ht]
  rw [Nat.add_assoc, <- hs]
  constructor <;> intro h
  ·apply hK
   refine evl ?_
   refine Fin.nt results59 [] ?_ ?_ ?_ <;> try trivial
   (refine rsl ?_; try exact .intro)
   exact szL_bad h (by omega)
  ·apply hK
   exact ⟨l.length - (i + 1), _, by omega, Ent.wk [], i + 1, by omega, rfl, h, rfl⟩
 ·have hge' : i = l.length := by omega
  subst hge'
  have hdi : decide ((l.length : Int) < l.length) = false := by simp
  refine sv1 ?_
  apply hK
  refine evl ?_
  refine Fin.nt results59 [] ?_ ?_ ?_ <;> try trivial
  all_goals try ((refine rsl ?_; try exact .intro))
  all_goals simp
theorem c75 (l : List SList) (h : sizSListS l <= 1048576) : Ctr prog 75 [.one (.dat (.sl 1 (l.map encSList)))] [] (.one (.own 0)) [.vec 1 true (l.map encSList)] := by
 have hl : l.length <= 1048576 := by unfold sizSListS at h; omega
 refine Ctr.bd mixed func75 rfl ?_
 refine evl ?_
 refine ⟨by omega, ?_⟩
 refine LoopK_intro (fun n s => ∃ i : Nat, i <= l.length /\ n = l.length - i /\ s = mkSt [(4, .one (.dat (.int .i64 i))), (3, .one (.own 0)), (0, .one (.dat (.sl 1 (l.map encSList))))]
   [.vec 1 true ((l.take i).map encSList ++ List.replicate (l.length - i) [.sl 1 []])]) l.length _
  (Ent.wk [0]) ⟨0, by omega, by omega, rfl⟩ ?_
 rintro n s ⟨i, hi, rfl, rfl⟩ K hK
 rcases Nat.lt_or_ge i l.length with hlt | hge
 ·have hdi : decide ((i : Int) < l.length) = true := by simpa using hlt
  simp (maxSteps := 2000000) only [go_sem, seval, hdi, getD_map hlt, encSList, D.flat, wrap_succ hlt (le20 hl)]
  first | refine ⟨⟨by omega, by omega⟩, hlt, ?_⟩ | refine ⟨by omega, hlt, ?_⟩
  refine CallK_pure e110 (c110 l[i] (by have := sum_get sizSList hlt; unfold sizSListS at h; omega)) rfl ?_
  simp (maxSteps := 2000000) only [go_sem, seval, encSList, D.flat, wrap_succ hlt (le20 hl)]
  repeat' ((with_reducible show _ /\ _); apply And.intro)
  all_goals first
   | (apply hK
      refine ⟨l.length - (i + 1), _, by omega, Ent.weak (ids := [0]) (by simp) rfl (by simp) ?_ ?_ ?_, i + 1, by omega, rfl, rfl⟩
      ·simp only [objsLe, St.obj, find, AObj.renF, if_true, Option.getD_some, List.getD_cons_zero, and_true]
       rw [<- take_set encSList l _ hlt]
       exact ⟨by simp, Or.inr rfl⟩
      ·simp [objsLe, envLe, find, St.obj, AObj.renF, AV.renF, AV.renF1, Leaf.renF, LowAll, AV.Low, AV.Low1, Leaf.Low, AObj.Low, Ptr.renF, Ptr.Low]
      ·simp [objsLe, envLe, find, St.obj, AObj.renF, AV.renF, AV.renF1, Leaf.renF, LowAll, AV.Low, AV.Low1, Leaf.Low, AObj.Low, Ptr.renF, Ptr.Low])
   | omega
   | decide
   | (simp; done)
   | (simp; omega)
   | trivial
 ·have hge' : i = l.length := by omega
  subst hge'
  have hdi : decide ((l.length : Int) < l.length) = false := by simp
  refine sv1 ?_
  apply hK
  refine evl ?_
  refine Fin.nt results75 [0] ?_ ?_ ?_ <;> try trivial
  all_goals simp [objsLe, St.obj, find, AObj.renF]
theorem c88 (l l' : List SList) (h0 : sizSListS l <= 1048576) (h0' : sizSListS l' <= 1048576) : Ctr prog 88 [.one (.dat (.sl 1 (l.map encSList))), .one (.dat (.sl 1 (l'.map encSList)))] [] (.one (.dat (.bool (decide (l = l'))))) [] := by
 have hl : l.length <= maxLen := (lokSListS (by omega)).1
 have hl' : l'.length <= maxLen := (lokSListS (by omega)).1
 refine Ctr.bd mixed func88 rfl ?_
 refine evl ?_
 constructor <;> intro h
 ·have hne : l.length ≠ l'.length := by simp at h; omega
  refine Fin.nt results88 [] ?_ ?_ ?_ <;> try trivial
  (refine rsl ?_; try exact .intro)
  symm; rw [decide_eq_false_iff_not]
  intro e; exact hne (by rw [e])
 have hlen : l.length = l'.length := by simp at h; omega
 refine LoopK_intro (fun n s => ∃ i : Nat, i <= l.length /\ n = l.length - i /\ l.take i = l'.take i /\ s = mkSt [(5, .one (.dat (.int .i64 i))), (1, .one (.dat (.sl 1 (l'.map encSList)))), (0, .one (.dat (.sl 1 (l.map encSList))))] []) l.length _
  (Ent.wk []) ⟨0, by omega, by omega, rfl, rfl⟩ ?_
 rintro n s ⟨i, hi, rfl, ht, rfl⟩ K hK
 rcases Nat.lt_or_ge i l.length with hlt | hge
 ·have hdi : decide ((i : Int) < l.length) = true := by simpa using hlt
  have hlt' : i < l'.length := by omega
  simp (maxSteps := 2000000) only [go_sem, seval, hdi, wrap_succ hlt hl, getD_map hlt, getD_map hlt', encSList]
  refine ⟨⟨by omega, by omega⟩, hlt, ⟨by omega, by omega⟩, hlt', ?_⟩
  first
   | refine CCallK_intro e120 (fun _ => ⟨trivial, c120 l[i] l'[i] (by have := sum_get sizSList hlt; unfold sizSListS at h0; omega) (by have := sum_get sizSList hlt'; unfold sizSListS at h0'; omega)⟩) rfl rfl ?_
   | refine Or.inl (CCallK_intro e120 (fun _ => ⟨trivial, c120 l[i] l'[i] (by have := sum_get sizSList hlt; unfold sizSListS at h0; omega) (by have := sum_get sizSList hlt'; unfold sizSListS at h0'; omega)⟩) rfl rfl ?_)
  simp (maxSteps := 2000000) only [go_sem, seval, wrap_succ hlt hl]
  constructor <;> intro h
  ·apply hK
   refine evl ?_
   refine Fin.nt results88 [] ?_ ?_ ?_ <;> try trivial
   (refine rsl ?_; try exact .intro)
   symm; rw [decide_eq_false_iff_not]
   rintro rfl; simp at h
  ·apply hK
   have he : l[i] = l'[i] := by simpa using h
   exact ⟨l.length - (i + 1), _, by omega, Ent.wk [], i + 1, by omega, rfl, by rw [List.take_succ_eq_append_getElem hlt, List.take_succ_eq_append_getElem hlt', ht, he], rfl⟩
 ·have hge' : i = l.length := by omega
  subst hge'
  have hdi : decide ((l.length : Int) < l.length) = false := by simp
  refine sv1 ?_
  apply hK
  refine evl ?_
  refine Fin.nt results88 [] ?_ ?_ ?_ <;> try trivial
  (refine rsl ?_; try exact .intro)
  symm; rw [decide_eq_true_iff]
  rw [List.take_of_length_le (Nat.le_refl _), List.take_of_length_le (by omega)] at ht
  exact ht
structure Lists where
 Global : List SList
 Own : List SList
 deriving DecidableEq
def encLists (x : Lists) : List D := [.sl 1 (x.Global.map encSList), .sl 1 (x.Own.map encSList)]
def Lists.wf (x : Lists) : Prop := (∀ y ∈ x.Global, y.wf) /\ (∀ y ∈ x.Own, y.wf) /\ True
theorem Lists.eq_iff (x y : Lists) : x = y ↔ x.Global = y.Global /\ x.Own = y.Own := by cases x; cases y; simp
def Lists.lok (x : Lists) : Prop := x.Global.length <= maxLen /\ (∀ y ∈ x.Global, y.lok) /\ x.Own.length <= maxLen /\ (∀ y ∈ x.Own, y.lok) /\ True
def sizLists (x : Lists) : Nat := sizSListS x.Global + sizSListS x.Own
def sizListsS (l : List Lists) : Nat := l.length + (l.map sizLists).sum
def zeroLists : Lists := ⟨[], []⟩
theorem decLists (n : Nat) (ds : List D) (h : WT prog n 27 ds) : ∃ x : Lists, ds = encLists x /\ x.wf /\ x.lok := by
 cases n with
 | zero => exact h.elim
 | succ n =>
  unfold WT at h
  rw [underlying27] at h
  simp only [List.toList_toArray, List.map_cons, List.map_nil, WTs] at h
  obtain ⟨_, _, rfl, h0, ⟨_, _, rfl, h1, rfl⟩⟩ := h
  obtain ⟨x0, rfl, c0, w0⟩ := decSl (enc := encSList) (q := fun x => x.wf /\ x.lok) underlying25 tc_105 decSList h0
  obtain ⟨x1, rfl, c1, w1⟩ := decSl (enc := encSList) (q := fun x => x.wf /\ x.lok) underlying25 tc_105 decSList h1
  exact ⟨⟨x0, x1⟩, rfl, ⟨fun y hy => (w0 y hy).1, fun y hy => (w1 y hy).1, trivial⟩, ⟨c0, fun y hy => (w0 y hy).2, c1, fun y hy => (w1 y hy).2, trivial⟩⟩
theorem Lists.lok_of {x : Lists} (h : sizLists x <= 16777216) : x.lok := by
 have hm : maxLen = 9223372036854775807 := rfl
 unfold sizLists at h
 unfold sizSListS at h
 exact ⟨by omega, fun y hy => SList.lok_of (by have := sum_mem sizSList hy; omega), by omega, fun y hy => SList.lok_of (by have := sum_mem sizSList hy; omega), trivial⟩
theorem lokListsS {l : List Lists} (h : sizListsS l <= 16777216) : l.length <= maxLen /\ ∀ y ∈ l, y.lok := by
 have hm : maxLen = 9223372036854775807 := rfl
 unfold sizListsS at h
 exact ⟨by omega, fun y hy => Lists.lok_of (by have := sum_mem sizLists hy; omega)⟩
theorem c24 (x : Lists) (hk : x.lok) (left : Int) (h0 : 0 <= left) (h1 : left <= 1048576) : Ctr prog 24 [.agg ((encLists x).map .dat), .one (.dat (.int .i64 left))] [] (.one (.dat (.int .i64 (szL left (sizLists x))))) [] := by
 simp only [encLists, List.map_cons, List.map_nil]
 unfold sizLists
 refine Ctr.bd mixed func24 rfl ?_
 refine evl ?_
 obtain ⟨kGlobal, qGlobal, kOwn, qOwn, _⟩ := hk
 refine CallK_pure e59 (c59 x.Global kGlobal qGlobal left h0 h1) rfl ?_
 refine evl ?_
 constructor <;> intro h
 ·refine Fin.nt results24 [] ?_ ?_ ?_ <;> try trivial
  (refine rsl ?_; try exact .intro)
  try simp only [List.length_map] at h
  exact szL_bad (h) (by omega)
 try simp only [List.length_map] at h
 have a0 : decide (szL left (sizSListS x.Global) < 0) = false := h
 obtain ⟨_, _, g0, u0⟩ := szL_le h1 a0
 try simp only [List.length_map]
 refine CallK_pure e59 (c59 x.Own kOwn qOwn (szL left (sizSListS x.Global)) g0 u0) rfl ?_
 refine evl ?_
 constructor <;> intro h
 ·refine Fin.nt results24 [] ?_ ?_ ?_ <;> try trivial
  (refine rsl ?_; try exact .intro)
  try simp only [List.length_map] at h
  exact szL_bad (szL_at h0 a0 ▸ h) (by omega)
 try simp only [List.length_map] at h
 have a1 : decide (szL left (sizSListS x.Global + sizSListS x.Own) < 0) = false := szL_at h0 a0 ▸ h
 refine Fin.nt results24 [] ?_ ?_ ?_ <;> try trivial
 all_goals try ((refine rsl ?_; try exact .intro))
 all_goals try simp only [List.length_map]
 all_goals try exact szL_at h0 a0
theorem c32 (x : Lists) (h : sizLists x <= 1048576) : Ctr prog 32 [.agg ((encLists x).map .dat)] [] (.agg [.own 0, .own 1]) [.vec 1 true (x.Global.map encSList), .vec 1 true (x.Own.map encSList)] := by
 simp only [encLists, List.map_cons, List.map_nil]
 unfold sizLists at h
 refine Ctr.bd mixed func32 rfl ?_
 refine evl ?_
 refine CallK_pure e75 (c75 x.Global (by omega)) rfl ?_
 refine evl ?_
 refine CallK_pure e75 (c75 x.Own (by omega)) rfl ?_
 refine evl ?_
 first | ((refine Fin.nt results32 [3, 4] ?_ ?_ ?_ <;> try trivial) <;> (first | rfl | exact entd); done) | ((refine Fin.nt results32 [2, 3] ?_ ?_ ?_ <;> try trivial) <;> (first | rfl | exact entd); done) | ((refine Fin.nt results32 [1, 2] ?_ ?_ ?_ <;> try trivial) <;> (first | rfl | exact entd); done) | ((refine Fin.nt results32 [0, 1] ?_ ?_ ?_ <;> try trivial) <;> (first | rfl | exact entd); done) | ((refine Fin.nt results32 [4, 5] ?_ ?_ ?_ <;> try trivial) <;> (first | rfl | exact entd); done) | ((refine Fin.nt results32 [5, 6] ?_ ?_ ?_ <;> try trivial) <;> (first | rfl | exact entd); done)
theorem c41 (x y : Lists) (hx : sizLists x <= 1048576) (hy : sizLists y <= 1048576) : Ctr prog 41 [.agg ((encLists x).map .dat), .agg ((encLists y).map .dat)] [] (.one (.dat (.bool (decide (x = y))))) [] := by
 simp only [encLists, List.map_cons, List.map_nil]
 unfold sizLists at hx hy
 have hm : maxLen = 9223372036854775807 := rfl
 refine Ctr.bd mixed func41 rfl ?_
 refine evl ?_
 refine ck e88 (c88 x.Global y.Global (by omega) (by omega)) rfl ?_
 refine evl ?_
 constructor <;> intro h
 ·refine Fin.nt results41 [] ?_ ?_ ?_ <;> try trivial
  (refine rsl ?_; try exact .intro)
  simp_all [Lists.eq_iff]
 have eGlobal := h; clear h
 refine ck e88 (c88 x.Own y.Own (by omega) (by omega)) rfl ?_
 refine evl ?_
 constructor <;> intro h
 ·refine Fin.nt results41 [] ?_ ?_ ?_ <;> try trivial
  (refine rsl ?_; try exact .intro)
  simp_all [Lists.eq_iff]
 have eOwn := h; clear h
 refine Fin.nt results41 [] ?_ ?_ ?_ <;> try trivial
 (refine rsl ?_; try exact .intro)
 simp_all [Lists.eq_iff]
structure Mem where
 Heap : Heap
 Lists : Lists
 deriving DecidableEq
def encMem (x : Mem) : List D := [.sl 1 (x.Heap.Bytes.map encI), .sl 1 (x.Heap.Class.map encI), .sl 1 (x.Lists.Global.map encSList), .sl 1 (x.Lists.Own.map encSList)]
def Mem.wf (x : Mem) : Prop := x.Heap.wf /\ x.Lists.wf /\ True
theorem Mem.eq_iff (x y : Mem) : x = y ↔ x.Heap = y.Heap /\ x.Lists = y.Lists := by cases x; cases y; simp
def Mem.lok (x : Mem) : Prop := x.Heap.lok /\ x.Lists.lok /\ True
def sizMem (x : Mem) : Nat := sizHeap x.Heap + sizLists x.Lists
def sizMemS (l : List Mem) : Nat := l.length + (l.map sizMem).sum
def zeroMem : Mem := ⟨zeroHeap, zeroLists⟩
theorem decMem (n : Nat) (ds : List D) (h : WT prog n 29 ds) : ∃ x : Mem, ds = encMem x /\ x.wf /\ x.lok := by
 cases n with
 | zero => exact h.elim
 | succ n =>
  unfold WT at h
  rw [underlying29] at h
  simp only [List.toList_toArray, List.map_cons, List.map_nil, WTs] at h
  obtain ⟨_, _, rfl, h0, ⟨_, _, rfl, h1, rfl⟩⟩ := h
  obtain ⟨x0, rfl, w0, k0⟩ := decHeap _ _ h0
  obtain ⟨x1, rfl, w1, k1⟩ := decLists _ _ h1
  exact ⟨⟨x0, x1⟩, rfl, ⟨w0, w1, trivial⟩, ⟨k0, k1, trivial⟩⟩
theorem c7 (x : Mem) (hk : x.lok) (left : Int) (h0 : 0 <= left) (h1 : left <= 1048576) : Ctr prog 7 [.agg ((encMem x).map .dat), .one (.dat (.int .i64 left))] [] (.one (.dat (.int .i64 (szL left (sizMem x))))) [] := by
 simp only [encMem, List.map_cons, List.map_nil]
 unfold sizMem
 refine Ctr.bd mixed func7 rfl ?_
 refine evl ?_
 obtain ⟨kHeap, kLists, _⟩ := hk
 refine CallK_pure e23 (c23 x.Heap kHeap left h0 h1) rfl ?_
 refine evl ?_
 constructor <;> intro h
 ·refine Fin.nt results7 [] ?_ ?_ ?_ <;> try trivial
  (refine rsl ?_; try exact .intro)
  try simp only [List.length_map] at h
  exact szL_bad (h) (by omega)
 try simp only [List.length_map] at h
 have a0 : decide (szL left (sizHeap x.Heap) < 0) = false := h
 obtain ⟨_, _, g0, u0⟩ := szL_le h1 a0
 try simp only [List.length_map]
 refine CallK_pure e24 (c24 x.Lists kLists (szL left (sizHeap x.Heap)) g0 u0) rfl ?_
 refine evl ?_
 constructor <;> intro h
 ·refine Fin.nt results7 [] ?_ ?_ ?_ <;> try trivial
  (refine rsl ?_; try exact .intro)
  try simp only [List.length_map] at h
  exact szL_bad (szL_at h0 a0 ▸ h) (by omega)
 try simp only [List.length_map] at h
 have a1 : decide (szL left (sizHeap x.Heap + sizLists x.Lists) < 0) = false := szL_at h0 a0 ▸ h
 refine Fin.nt results7 [] ?_ ?_ ?_ <;> try trivial
 all_goals try ((refine rsl ?_; try exact .intro))
 all_goals try simp only [List.length_map]
 all_goals try exact szL_at h0 a0
theorem c9 (x : Mem) (h : sizMem x <= 1048576) : Ctr prog 9 [.agg ((encMem x).map .dat)] [] (.agg [.own 0, .own 1, .own 2, .own 3]) [.vec 1 true (x.Heap.Bytes.map encI), .vec 1 true (x.Heap.Class.map encI), .vec 1 true (x.Lists.Global.map encSList), .vec 1 true (x.Lists.Own.map encSList)] := by
 simp only [encMem, List.map_cons, List.map_nil]
 unfold sizMem at h
 refine Ctr.bd mixed func9 rfl ?_
 refine evl ?_
 refine CallK_pure e31 (c31 x.Heap (by omega)) rfl ?_
 refine evl ?_
 refine CallK_pure e32 (c32 x.Lists (by omega)) rfl ?_
 refine evl ?_
 first | ((refine Fin.nt results9 [3, 4, 5, 6] ?_ ?_ ?_ <;> try trivial) <;> (first | rfl | exact entd); done) | ((refine Fin.nt results9 [2, 3, 4, 5] ?_ ?_ ?_ <;> try trivial) <;> (first | rfl | exact entd); done) | ((refine Fin.nt results9 [1, 2, 3, 4] ?_ ?_ ?_ <;> try trivial) <;> (first | rfl | exact entd); done) | ((refine Fin.nt results9 [0, 1, 2, 3] ?_ ?_ ?_ <;> try trivial) <;> (first | rfl | exact entd); done) | ((refine Fin.nt results9 [4, 5, 6, 7] ?_ ?_ ?_ <;> try trivial) <;> (first | rfl | exact entd); done) | ((refine Fin.nt results9 [5, 6, 7, 8] ?_ ?_ ?_ <;> try trivial) <;> (first | rfl | exact entd); done)
theorem c11 (x y : Mem) (hx : sizMem x <= 1048576) (hy : sizMem y <= 1048576) : Ctr prog 11 [.agg ((encMem x).map .dat), .agg ((encMem y).map .dat)] [] (.one (.dat (.bool (decide (x = y))))) [] := by
 simp only [encMem, List.map_cons, List.map_nil]
 unfold sizMem at hx hy
 have hm : maxLen = 9223372036854775807 := rfl
 refine Ctr.bd mixed func11 rfl ?_
 refine evl ?_
 refine ck e40 (c40 x.Heap y.Heap (by omega) (by omega)) rfl ?_
 refine evl ?_
 constructor <;> intro h
 ·refine Fin.nt results11 [] ?_ ?_ ?_ <;> try trivial
  (refine rsl ?_; try exact .intro)
  simp_all [Mem.eq_iff]
 have eHeap := h; clear h
 refine ck e41 (c41 x.Lists y.Lists (by omega) (by omega)) rfl ?_
 refine evl ?_
 constructor <;> intro h
 ·refine Fin.nt results11 [] ?_ ?_ ?_ <;> try trivial
  (refine rsl ?_; try exact .intro)
  simp_all [Mem.eq_iff]
 have eLists := h; clear h
 refine Fin.nt results11 [] ?_ ?_ ?_ <;> try trivial
 (refine rsl ?_; try exact .intro)
 simp_all [Mem.eq_iff]
def Node.lok (x : Node) : Prop := True
def zeroNode : Node := ⟨0, 0, 0⟩
theorem decNode (n : Nat) (ds : List D) (h : WT prog n 44 ds) : ∃ x : Node, ds = encNode x /\ x.wf /\ x.lok := by
 cases n with
 | zero => exact h.elim
 | succ n =>
  unfold WT at h
  rw [underlying44] at h
  simp only [List.toList_toArray, List.map_cons, List.map_nil, WTs] at h
  obtain ⟨_, _, rfl, h0, ⟨_, _, rfl, h1, ⟨_, _, rfl, h2, rfl⟩⟩⟩ := h
  obtain ⟨x0, rfl, w0⟩ := decInt underlying3 h0
  obtain ⟨x1, rfl, w1⟩ := decInt underlying3 h1
  obtain ⟨x2, rfl, w2⟩ := decInt underlying3 h2
  exact ⟨⟨x0, x1, x2⟩, rfl, ⟨w0, w1, w2, trivial⟩, trivial⟩
def Bkt.lok (x : Bkt) : Prop := True
def zeroBkt : Bkt := ⟨0, 0, 0⟩
theorem decBkt (n : Nat) (ds : List D) (h : WT prog n 50 ds) : ∃ x : Bkt, ds = encBkt x /\ x.wf /\ x.lok := by
 cases n with
 | zero => exact h.elim
 | succ n =>
  unfold WT at h
  rw [underlying50] at h
  simp only [List.toList_toArray, List.map_cons, List.map_nil, WTs] at h
  obtain ⟨_, _, rfl, h0, ⟨_, _, rfl, h1, ⟨_, _, rfl, h2, rfl⟩⟩⟩ := h
  obtain ⟨x0, rfl, w0⟩ := decInt underlying3 h0
  obtain ⟨x1, rfl, w1⟩ := decInt underlying3 h1
  obtain ⟨x2, rfl, w2⟩ := decInt underlying3 h2
  exact ⟨⟨x0, x1, x2⟩, rfl, ⟨w0, w1, w2, trivial⟩, trivial⟩
end Go.Proofs.YtpniplpnggddpaaGreat.Mod
