/- Contracts: Fam2. -/
import Derived.Test.YtkmmgklnoagedaaGreatRows
import Derived.Test.YtkmmgklnoagedaaGreatBTy
import Derived.Test.YtkmmgklnoagedaaGreatAbsTac
import Derived.Test.YtkmmgklnoagedaaGreatAbsData
import Derived.Test.YtkmmgklnoagedaaGreatBFam
import Derived.WalkKit
import Derived.ProofKit
import Derived.OpenShut
namespace Go.Proofs.YtkmmgklnoagedaaGreat.Mod
open Go.Proofs.Tryz Go.Abs Go.Proofs.YtkmmgklnoagedaaGreat.Ty Go.ChangeShapes Go.WideShapes Go.ChangeAt Go.RowKit
set_option linter.unusedSimpArgs false
set_option linter.unusedVariables false
set_option maxHeartbeats 8000000
set_option maxRecDepth 100000
def encI (x : Int) : List D := [.int .i64 x]
theorem sum_get {α : Type} (f : α -> Nat) : ∀ {l : List α} {i : Nat} (h : i < l.length), f l[i] <= (l.map f).sum
 | x :: l, 0, _ => by simp
 | x :: l, i + 1, h => by
  have := sum_get f (l := l) (i := i) (by simpa using h)
  simp; omega
theorem sum_mem {α : Type} (f : α -> Nat) {l : List α} {x : α} (h : x ∈ l) : f x <= (l.map f).sum := by
 obtain ⟨i, hi, rfl⟩ := List.getElem_of_mem h
 exact sum_get f hi
theorem sum_take_succ {α : Type} (f : α -> Nat) {l : List α} {i : Nat} (h : i < l.length) : ((l.take (i + 1)).map f).sum = ((l.take i).map f).sum + f l[i] := by
 rw [List.take_succ_eq_append_getElem h, List.map_append, List.sum_append]; simp
theorem sum_take_le {α : Type} (f : α -> Nat) (l : List α) (i : Nat) : ((l.take i).map f).sum <= (l.map f).sum := by
 conv => rhs; rw [<- List.take_append_drop i l, List.map_append, List.sum_append]
 omega
theorem szL_raw {left : Int} {n : Nat} : decide (szL left n < 0) = decide (left - n < 0) := by
 unfold szL; split <;> simp <;> omega
theorem szL_at {left : Int} {a b : Nat} (h0 : 0 <= left) (h : decide (szL left a < 0) = false) : szL (szL left a) b = szL left (a + b) := by
 unfold szL at h ⊢
 split at h
 ·simp at h
 ·rename_i hn
  rw [if_neg hn]
  by_cases h2 : left - (a + b : Nat) < 0
  ·rw [if_pos h2, if_pos (by omega)]
  ·rw [if_neg h2, if_neg (by omega)]; omega
theorem szL_bad {left : Int} {a t : Nat} (h : decide (szL left a < 0) = true) (ht : a <= t) : (-1 : Int) = szL left t := by
 rw [szL_raw] at h
 simp at h
 unfold szL
 rw [if_pos (by omega)]
theorem c94 (l l' : List Int) (hl : l.length <= maxLen) (hl' : l'.length <= maxLen) : Ctr prog 94 [.one (.dat (.sl 1 (l.map encI))), .one (.dat (.sl 1 (l'.map encI)))] [] (.one (.dat (.bool (decide (l = l'))))) [] := by
 refine Ctr.bd mixed func94 rfl ?_
 refine evl ?_
 constructor <;> intro h
 ·have hne : l.length ≠ l'.length := by simp at h; omega
  refine Fin.nt results94 [] ?_ ?_ ?_ <;> try trivial
  (refine rsl ?_; try exact .intro)
  symm; rw [decide_eq_false_iff_not]
  intro e; exact hne (by rw [e])
 have hlen : l.length = l'.length := by simp at h; omega
 refine LoopK_intro (fun n s => ∃ i : Nat, i <= l.length /\ n = l.length - i /\ l.take i = l'.take i /\ s = mkSt [(5, .one (.dat (.int .i64 i))), (1, .one (.dat (.sl 1 (l'.map encI)))), (0, .one (.dat (.sl 1 (l.map encI))))] []) l.length _
  (Ent.wk []) ⟨0, by omega, by omega, rfl, rfl⟩ ?_
 rintro n s ⟨i, hi, rfl, ht, rfl⟩ K hK
 rcases Nat.lt_or_ge i l.length with hlt | hge
 ·have hdi : decide ((i : Int) < l.length) = true := by simpa using hlt
  have hlt' : i < l'.length := by omega
  simp (maxSteps := 2000000) only [go_sem, seval, hdi, wrap_succ hlt hl, getD_map hlt, getD_map hlt', encI]
  refine ⟨⟨by omega, by omega⟩, hlt, ⟨by omega, by omega⟩, hlt', ?_⟩
  constructor <;> intro h
  ·apply hK
   refine evl ?_
   refine Fin.nt results94 [] ?_ ?_ ?_ <;> try trivial
   (refine rsl ?_; try exact .intro)
   symm; rw [decide_eq_false_iff_not]
   rintro rfl; simp at h
  ·apply hK
   have he : l[i] = l'[i] := by simpa using h
   exact ⟨l.length - (i + 1), _, by omega, Ent.wk [], i + 1, by omega, rfl, by rw [List.take_succ_eq_append_getElem hlt, List.take_succ_eq_append_getElem hlt', ht, he], rfl⟩
 ·have hge' : i = l.length := by omega
  subst hge'
  have hdi : decide ((l.length : Int) < l.length) = false := by simp
  refine sv4 ?_
  apply hK
  refine evl ?_
  refine Fin.nt results94 [] ?_ ?_ ?_ <;> try trivial
  (refine rsl ?_; try exact .intro)
  symm; rw [decide_eq_true_iff]
  rw [List.take_of_length_le (Nat.le_refl _), List.take_of_length_le (by omega)] at ht
  exact ht
structure Heap where
 Bytes : List Int
 Class : List Int
 deriving DecidableEq
def encHeap (x : Heap) : List D := [.sl 1 (x.Bytes.map encI), .sl 1 (x.Class.map encI)]
def Heap.wf (x : Heap) : Prop := (∀ y ∈ x.Bytes, (Lit.int .i64 y).wf = true) /\ (∀ y ∈ x.Class, (Lit.int .i64 y).wf = true) /\ True
theorem Heap.eq_iff (x y : Heap) : x = y ↔ x.Bytes = y.Bytes /\ x.Class = y.Class := by cases x; cases y; simp
def Heap.lok (x : Heap) : Prop := x.Bytes.length <= maxLen /\ x.Class.length <= maxLen /\ True
def sizHeap (x : Heap) : Nat := x.Bytes.length + x.Class.length
def sizHeapS (l : List Heap) : Nat := l.length + (l.map sizHeap).sum
def zeroHeap : Heap := ⟨[], []⟩
theorem c180 (x y : Heap) (hx : sizHeap x <= 1048576) (hy : sizHeap y <= 1048576) : Ctr prog 180 [.agg ((encHeap x).map .dat), .agg ((encHeap y).map .dat)] [] (.one (.dat (.bool (decide (x = y))))) [] := by
 simp only [encHeap, List.map_cons, List.map_nil]
 unfold sizHeap at hx hy
 have hm : maxLen = 9223372036854775807 := rfl
 refine Ctr.bd mixed func180 rfl ?_
 refine evl ?_
 refine ck e94 (c94 x.Bytes y.Bytes (by omega) (by omega)) rfl ?_
 refine evl ?_
 constructor <;> intro h
 ·refine Fin.nt results180 [] ?_ ?_ ?_ <;> try trivial
  (refine rsl ?_; try exact .intro)
  simp_all [Heap.eq_iff]
 have eBytes := h; clear h
 refine ck e94 (c94 x.Class y.Class (by omega) (by omega)) rfl ?_
 refine evl ?_
 constructor <;> intro h
 ·refine Fin.nt results180 [] ?_ ?_ ?_ <;> try trivial
  (refine rsl ?_; try exact .intro)
  simp_all [Heap.eq_iff]
 have eClass := h; clear h
 refine Fin.nt results180 [] ?_ ?_ ?_ <;> try trivial
 (refine rsl ?_; try exact .intro)
 simp_all [Heap.eq_iff]
structure SList where
 Slots : List Int
 deriving DecidableEq
def encSList (x : SList) : List D := [.sl 1 (x.Slots.map encI)]
def SList.wf (x : SList) : Prop := (∀ y ∈ x.Slots, (Lit.int .i64 y).wf = true) /\ True
theorem SList.eq_iff (x y : SList) : x = y ↔ x.Slots = y.Slots := by cases x; cases y; simp
def SList.lok (x : SList) : Prop := x.Slots.length <= maxLen /\ True
def sizSList (x : SList) : Nat := x.Slots.length
def sizSListS (l : List SList) : Nat := l.length + (l.map sizSList).sum
def zeroSList : SList := ⟨[]⟩
theorem SList.lok_of {x : SList} (h : sizSList x <= 16777216) : x.lok := by
 have hm : maxLen = 9223372036854775807 := rfl
 unfold sizSList at h
 exact ⟨by omega, trivial⟩
theorem lokSListS {l : List SList} (h : sizSListS l <= 16777216) : l.length <= maxLen /\ ∀ y ∈ l, y.lok := by
 have hm : maxLen = 9223372036854775807 := rfl
 unfold sizSListS at h
 exact ⟨by omega, fun y hy => SList.lok_of (by have := sum_mem sizSList hy; omega)⟩
theorem c329 (x y : SList) (hx : sizSList x <= 1048576) (hy : sizSList y <= 1048576) : Ctr prog 329 [.agg ((encSList x).map .dat), .agg ((encSList y).map .dat)] [] (.one (.dat (.bool (decide (x = y))))) [] := by
 simp only [encSList, List.map_cons, List.map_nil]
 unfold sizSList at hx hy
 have hm : maxLen = 9223372036854775807 := rfl
 refine Ctr.bd mixed func329 rfl ?_
 refine evl ?_
 refine ck e94 (c94 x.Slots y.Slots (by omega) (by omega)) rfl ?_
 refine evl ?_
 constructor <;> intro h
 ·refine Fin.nt results329 [] ?_ ?_ ?_ <;> try trivial
  (refine rsl ?_; try exact .intro)
  simp_all [SList.eq_iff]
 have eSlots := h; clear h
 refine Fin.nt results329 [] ?_ ?_ ?_ <;> try trivial
 (refine rsl ?_; try exact .intro)
 simp_all [SList.eq_iff]
theorem c273 (l l' : List SList) (h0 : sizSListS l <= 1048576) (h0' : sizSListS l' <= 1048576) : Ctr prog 273 [.one (.dat (.sl 1 (l.map encSList))), .one (.dat (.sl 1 (l'.map encSList)))] [] (.one (.dat (.bool (decide (l = l'))))) [] := by
 have hl : l.length <= maxLen := (lokSListS (by omega)).1
 have hl' : l'.length <= maxLen := (lokSListS (by omega)).1
 refine Ctr.bd mixed func273 rfl ?_
 refine evl ?_
 constructor <;> intro h
 ·have hne : l.length ≠ l'.length := by simp at h; omega
  refine Fin.nt results273 [] ?_ ?_ ?_ <;> try trivial
  (refine rsl ?_; try exact .intro)
  symm; rw [decide_eq_false_iff_not]
  intro e; exact hne (by rw [e])
 have hlen : l.length = l'.length := by simp at h; omega
 refine LoopK_intro (fun n s => ∃ i : Nat, i <= l.length /\ n = l.length - i /\ l.take i = l'.take i /\ s = mkSt [(5, .one (.dat (.int .i64 i))), (1, .one (.dat (.sl 1 (l'.map encSList)))), (0, .one (.dat (.sl 1 (l.map encSList))))] []) l.length _
  (Ent.wk []) ⟨0, by omega, by omega, rfl, rfl⟩ ?_
 rintro n s ⟨i, hi, rfl, ht, rfl⟩ K hK
 rcases Nat.lt_or_ge i l.length with hlt | hge
 ·have hdi : decide ((i : Int) < l.length) = true := by simpa using hlt
  have hlt' : i < l'.length := by omega
  simp (maxSteps := 2000000) only [go_sem, seval, hdi, wrap_succ hlt hl, getD_map hlt, getD_map hlt', encSList]
  refine ⟨⟨by omega, by omega⟩, hlt, ⟨by omega, by omega⟩, hlt', ?_⟩
  first
   | refine CCallK_intro e329 (fun _ => ⟨trivial, c329 l[i] l'[i] (by have := sum_get sizSList hlt; unfold sizSListS at h0; omega) (by have := sum_get sizSList hlt'; unfold sizSListS at h0'; omega)⟩) rfl rfl ?_
   | refine Or.inl (CCallK_intro e329 (fun _ => ⟨trivial, c329 l[i] l'[i] (by have := sum_get sizSList hlt; unfold sizSListS at h0; omega) (by have := sum_get sizSList hlt'; unfold sizSListS at h0'; omega)⟩) rfl rfl ?_)
  refine sv0 ?_
  constructor <;> intro h
  ·apply hK
   refine evl ?_
   refine Fin.nt results273 [] ?_ ?_ ?_ <;> try trivial
   (refine rsl ?_; try exact .intro)
   symm; rw [decide_eq_false_iff_not]
   rintro rfl; simp at h
  ·apply hK
   have he : l[i] = l'[i] := by simpa using h
   exact ⟨l.length - (i + 1), _, by omega, Ent.wk [], i + 1, by omega, rfl, by rw [List.take_succ_eq_append_getElem hlt, List.take_succ_eq_append_getElem hlt', ht, he], rfl⟩
 ·have hge' : i = l.length := by omega
  subst hge'
  have hdi : decide ((l.length : Int) < l.length) = false := by simp
  refine sv4 ?_
  apply hK
  refine evl ?_
  refine Fin.nt results273 [] ?_ ?_ ?_ <;> try trivial
  (refine rsl ?_; try exact .intro)
  symm; rw [decide_eq_true_iff]
  rw [List.take_of_length_le (Nat.le_refl _), List.take_of_length_le (by omega)] at ht
  exact ht
structure Lists where
 Global : List SList
 Own : List SList
 deriving DecidableEq
def encLists (x : Lists) : List D := [.sl 1 (x.Global.map encSList), .sl 1 (x.Own.map encSList)]
def Lists.wf (x : Lists) : Prop := (∀ y ∈ x.Global, y.wf) /\ (∀ y ∈ x.Own, y.wf) /\ True
theorem Lists.eq_iff (x y : Lists) : x = y ↔ x.Global = y.Global /\ x.Own = y.Own := by cases x; cases y; simp
def Lists.lok (x : Lists) : Prop := x.Global.length <= maxLen /\ (∀ y ∈ x.Global, y.lok) /\ x.Own.length <= maxLen /\ (∀ y ∈ x.Own, y.lok) /\ True
def sizLists (x : Lists) : Nat := sizSListS x.Global + sizSListS x.Own
def sizListsS (l : List Lists) : Nat := l.length + (l.map sizLists).sum
def zeroLists : Lists := ⟨[], []⟩
theorem c181 (x y : Lists) (hx : sizLists x <= 1048576) (hy : sizLists y <= 1048576) : Ctr prog 181 [.agg ((encLists x).map .dat), .agg ((encLists y).map .dat)] [] (.one (.dat (.bool (decide (x = y))))) [] := by
 simp only [encLists, List.map_cons, List.map_nil]
 unfold sizLists at hx hy
 have hm : maxLen = 9223372036854775807 := rfl
 refine Ctr.bd mixed func181 rfl ?_
 refine evl ?_
 refine ck e273 (c273 x.Global y.Global (by omega) (by omega)) rfl ?_
 refine evl ?_
 constructor <;> intro h
 ·refine Fin.nt results181 [] ?_ ?_ ?_ <;> try trivial
  (refine rsl ?_; try exact .intro)
  simp_all [Lists.eq_iff]
 have eGlobal := h; clear h
 refine ck e273 (c273 x.Own y.Own (by omega) (by omega)) rfl ?_
 refine evl ?_
 constructor <;> intro h
 ·refine Fin.nt results181 [] ?_ ?_ ?_ <;> try trivial
  (refine rsl ?_; try exact .intro)
  simp_all [Lists.eq_iff]
 have eOwn := h; clear h
 refine Fin.nt results181 [] ?_ ?_ ?_ <;> try trivial
 (refine rsl ?_; try exact .intro)
 simp_all [Lists.eq_iff]
structure Mem where
 Heap : Heap
 Lists : Lists
 deriving DecidableEq
def encMem (x : Mem) : List D := [.sl 1 (x.Heap.Bytes.map encI), .sl 1 (x.Heap.Class.map encI), .sl 1 (x.Lists.Global.map encSList), .sl 1 (x.Lists.Own.map encSList)]
def Mem.wf (x : Mem) : Prop := x.Heap.wf /\ x.Lists.wf /\ True
theorem Mem.eq_iff (x y : Mem) : x = y ↔ x.Heap = y.Heap /\ x.Lists = y.Lists := by cases x; cases y; simp
def Mem.lok (x : Mem) : Prop := x.Heap.lok /\ x.Lists.lok /\ True
def sizMem (x : Mem) : Nat := sizHeap x.Heap + sizLists x.Lists
def sizMemS (l : List Mem) : Nat := l.length + (l.map sizMem).sum
def zeroMem : Mem := ⟨zeroHeap, zeroLists⟩
theorem c91 (x y : Mem) (hx : sizMem x <= 1048576) (hy : sizMem y <= 1048576) : Ctr prog 91 [.agg ((encMem x).map .dat), .agg ((encMem y).map .dat)] [] (.one (.dat (.bool (decide (x = y))))) [] := by
 simp only [encMem, List.map_cons, List.map_nil]
 unfold sizMem at hx hy
 have hm : maxLen = 9223372036854775807 := rfl
 refine Ctr.bd mixed func91 rfl ?_
 refine evl ?_
 refine ck e180 (c180 x.Heap y.Heap (by omega) (by omega)) rfl ?_
 refine evl ?_
 constructor <;> intro h
 ·refine Fin.nt results91 [] ?_ ?_ ?_ <;> try trivial
  (refine rsl ?_; try exact .intro)
  simp_all [Mem.eq_iff]
 have eHeap := h; clear h
 refine ck e181 (c181 x.Lists y.Lists (by omega) (by omega)) rfl ?_
 refine evl ?_
 constructor <;> intro h
 ·refine Fin.nt results91 [] ?_ ?_ ?_ <;> try trivial
  (refine rsl ?_; try exact .intro)
  simp_all [Mem.eq_iff]
 have eLists := h; clear h
 refine Fin.nt results91 [] ?_ ?_ ?_ <;> try trivial
 (refine rsl ?_; try exact .intro)
 simp_all [Mem.eq_iff]
structure Clock where
 Epoch : Int
 Pins : List Pin
 deriving DecidableEq
def encClock (x : Clock) : List D := [.int .i64 x.Epoch, .sl 4 (x.Pins.map encPin)]
def Clock.wf (x : Clock) : Prop := (Lit.int .i64 x.Epoch).wf = true /\ (∀ y ∈ x.Pins, y.wf) /\ True
theorem Clock.eq_iff (x y : Clock) : x = y ↔ x.Epoch = y.Epoch /\ x.Pins = y.Pins := by cases x; cases y; simp
def Clock.lok (x : Clock) : Prop := x.Pins.length <= maxLen /\ True
def sizClock (x : Clock) : Nat := x.Pins.length
def sizClockS (l : List Clock) : Nat := l.length + (l.map sizClock).sum
def zeroClock : Clock := ⟨0, []⟩
theorem c92 (x y : Clock) (hx : sizClock x <= 1048576) (hy : sizClock y <= 1048576) : Ctr prog 92 [.agg ((encClock x).map .dat), .agg ((encClock y).map .dat)] [] (.one (.dat (.bool (decide (x = y))))) [] := by
 simp only [encClock, List.map_cons, List.map_nil]
 unfold sizClock at hx hy
 have hm : maxLen = 9223372036854775807 := rfl
 refine Ctr.bd mixed func92 rfl ?_
 refine evl ?_
 constructor <;> intro h
 ·refine Fin.nt results92 [] ?_ ?_ ?_ <;> try trivial
  (refine rsl ?_; try exact .intro)
  simp_all [Clock.eq_iff]
 have eEpoch := h; clear h
 refine ck e182 (c182 x.Pins y.Pins (by omega) (by omega)) rfl ?_
 refine evl ?_
 constructor <;> intro h
 ·refine Fin.nt results92 [] ?_ ?_ ?_ <;> try trivial
  (refine rsl ?_; try exact .intro)
  simp_all [Clock.eq_iff]
 have ePins := h; clear h
 refine Fin.nt results92 [] ?_ ?_ ?_ <;> try trivial
 (refine rsl ?_; try exact .intro)
 simp_all [Clock.eq_iff]
structure LList where
 Rows : List LRow
 deriving DecidableEq
def encLList (x : LList) : List D := [.sl 2 (x.Rows.map encLRow)]
def LList.wf (x : LList) : Prop := (∀ y ∈ x.Rows, y.wf) /\ True
theorem LList.eq_iff (x y : LList) : x = y ↔ x.Rows = y.Rows := by cases x; cases y; simp
def LList.lok (x : LList) : Prop := x.Rows.length <= maxLen /\ True
def sizLList (x : LList) : Nat := x.Rows.length
def sizLListS (l : List LList) : Nat := l.length + (l.map sizLList).sum
def zeroLList : LList := ⟨[]⟩
theorem LList.lok_of {x : LList} (h : sizLList x <= 16777216) : x.lok := by
 have hm : maxLen = 9223372036854775807 := rfl
 unfold sizLList at h
 exact ⟨by omega, trivial⟩
theorem lokLListS {l : List LList} (h : sizLListS l <= 16777216) : l.length <= maxLen /\ ∀ y ∈ l, y.lok := by
 have hm : maxLen = 9223372036854775807 := rfl
 unfold sizLListS at h
 exact ⟨by omega, fun y hy => LList.lok_of (by have := sum_mem sizLList hy; omega)⟩
theorem c183 (x y : LList) (hx : sizLList x <= 1048576) (hy : sizLList y <= 1048576) : Ctr prog 183 [.agg ((encLList x).map .dat), .agg ((encLList y).map .dat)] [] (.one (.dat (.bool (decide (x = y))))) [] := by
 simp only [encLList, List.map_cons, List.map_nil]
 unfold sizLList at hx hy
 have hm : maxLen = 9223372036854775807 := rfl
 refine Ctr.bd mixed func183 rfl ?_
 refine evl ?_
 refine ck e275 (c275 x.Rows y.Rows (by omega) (by omega)) rfl ?_
 refine evl ?_
 constructor <;> intro h
 ·refine Fin.nt results183 [] ?_ ?_ ?_ <;> try trivial
  (refine rsl ?_; try exact .intro)
  simp_all [LList.eq_iff]
 have eRows := h; clear h
 refine Fin.nt results183 [] ?_ ?_ ?_ <;> try trivial
 (refine rsl ?_; try exact .intro)
 simp_all [LList.eq_iff]
theorem c93 (l l' : List LList) (h0 : sizLListS l <= 1048576) (h0' : sizLListS l' <= 1048576) : Ctr prog 93 [.one (.dat (.sl 1 (l.map encLList))), .one (.dat (.sl 1 (l'.map encLList)))] [] (.one (.dat (.bool (decide (l = l'))))) [] := by
 have hl : l.length <= maxLen := (lokLListS (by omega)).1
 have hl' : l'.length <= maxLen := (lokLListS (by omega)).1
 refine Ctr.bd mixed func93 rfl ?_
 refine evl ?_
 constructor <;> intro h
 ·have hne : l.length ≠ l'.length := by simp at h; omega
  refine Fin.nt results93 [] ?_ ?_ ?_ <;> try trivial
  (refine rsl ?_; try exact .intro)
  symm; rw [decide_eq_false_iff_not]
  intro e; exact hne (by rw [e])
 have hlen : l.length = l'.length := by simp at h; omega
 refine LoopK_intro (fun n s => ∃ i : Nat, i <= l.length /\ n = l.length - i /\ l.take i = l'.take i /\ s = mkSt [(5, .one (.dat (.int .i64 i))), (1, .one (.dat (.sl 1 (l'.map encLList)))), (0, .one (.dat (.sl 1 (l.map encLList))))] []) l.length _
  (Ent.wk []) ⟨0, by omega, by omega, rfl, rfl⟩ ?_
 rintro n s ⟨i, hi, rfl, ht, rfl⟩ K hK
 rcases Nat.lt_or_ge i l.length with hlt | hge
 ·have hdi : decide ((i : Int) < l.length) = true := by simpa using hlt
  have hlt' : i < l'.length := by omega
  simp (maxSteps := 2000000) only [go_sem, seval, hdi, wrap_succ hlt hl, getD_map hlt, getD_map hlt', encLList]
  refine ⟨⟨by omega, by omega⟩, hlt, ⟨by omega, by omega⟩, hlt', ?_⟩
  first
   | refine CCallK_intro e183 (fun _ => ⟨trivial, c183 l[i] l'[i] (by have := sum_get sizLList hlt; unfold sizLListS at h0; omega) (by have := sum_get sizLList hlt'; unfold sizLListS at h0'; omega)⟩) rfl rfl ?_
   | refine Or.inl (CCallK_intro e183 (fun _ => ⟨trivial, c183 l[i] l'[i] (by have := sum_get sizLList hlt; unfold sizLListS at h0; omega) (by have := sum_get sizLList hlt'; unfold sizLListS at h0'; omega)⟩) rfl rfl ?_)
  refine sv0 ?_
  constructor <;> intro h
  ·apply hK
   refine evl ?_
   refine Fin.nt results93 [] ?_ ?_ ?_ <;> try trivial
   (refine rsl ?_; try exact .intro)
   symm; rw [decide_eq_false_iff_not]
   rintro rfl; simp at h
  ·apply hK
   have he : l[i] = l'[i] := by simpa using h
   exact ⟨l.length - (i + 1), _, by omega, Ent.wk [], i + 1, by omega, rfl, by rw [List.take_succ_eq_append_getElem hlt, List.take_succ_eq_append_getElem hlt', ht, he], rfl⟩
 ·have hge' : i = l.length := by omega
  subst hge'
  have hdi : decide ((l.length : Int) < l.length) = false := by simp
  refine sv4 ?_
  apply hK
  refine evl ?_
  refine Fin.nt results93 [] ?_ ?_ ?_ <;> try trivial
  (refine rsl ?_; try exact .intro)
  symm; rw [decide_eq_true_iff]
  rw [List.take_of_length_le (Nat.le_refl _), List.take_of_length_le (by omega)] at ht
  exact ht
structure Base where
 Mem : Mem
 Clock : Clock
 Limbo : List LList
 Haz : List Int
 deriving DecidableEq
def encBase (x : Base) : List D := [.sl 1 (x.Mem.Heap.Bytes.map encI), .sl 1 (x.Mem.Heap.Class.map encI), .sl 1 (x.Mem.Lists.Global.map encSList), .sl 1 (x.Mem.Lists.Own.map encSList), .int .i64 x.Clock.Epoch, .sl 4 (x.Clock.Pins.map encPin), .sl 1 (x.Limbo.map encLList), .sl 1 (x.Haz.map encI)]
def Base.wf (x : Base) : Prop := x.Mem.wf /\ x.Clock.wf /\ (∀ y ∈ x.Limbo, y.wf) /\ (∀ y ∈ x.Haz, (Lit.int .i64 y).wf = true) /\ True
theorem Base.eq_iff (x y : Base) : x = y ↔ x.Mem = y.Mem /\ x.Clock = y.Clock /\ x.Limbo = y.Limbo /\ x.Haz = y.Haz := by cases x; cases y; simp
def Base.lok (x : Base) : Prop := x.Mem.lok /\ x.Clock.lok /\ x.Limbo.length <= maxLen /\ (∀ y ∈ x.Limbo, y.lok) /\ x.Haz.length <= maxLen /\ True
def sizBase (x : Base) : Nat := sizMem x.Mem + sizClock x.Clock + sizLListS x.Limbo + x.Haz.length
def sizBaseS (l : List Base) : Nat := l.length + (l.map sizBase).sum
def zeroBase : Base := ⟨zeroMem, zeroClock, [], []⟩
theorem c32 (x y : Base) (hx : sizBase x <= 1048576) (hy : sizBase y <= 1048576) : Ctr prog 32 [.agg ((encBase x).map .dat), .agg ((encBase y).map .dat)] [] (.one (.dat (.bool (decide (x = y))))) [] := by
 simp only [encBase, List.map_cons, List.map_nil]
 unfold sizBase at hx hy
 have hm : maxLen = 9223372036854775807 := rfl
 refine Ctr.bd mixed func32 rfl ?_
 refine evl ?_
 refine ck e91 (c91 x.Mem y.Mem (by omega) (by omega)) rfl ?_
 refine evl ?_
 constructor <;> intro h
 ·refine Fin.nt results32 [] ?_ ?_ ?_ <;> try trivial
  (refine rsl ?_; try exact .intro)
  simp_all [Base.eq_iff]
 have eMem := h; clear h
 refine ck e92 (c92 x.Clock y.Clock (by omega) (by omega)) rfl ?_
 refine evl ?_
 constructor <;> intro h
 ·refine Fin.nt results32 [] ?_ ?_ ?_ <;> try trivial
  (refine rsl ?_; try exact .intro)
  simp_all [Base.eq_iff]
 have eClock := h; clear h
 refine ck e93 (c93 x.Limbo y.Limbo (by omega) (by omega)) rfl ?_
 refine evl ?_
 constructor <;> intro h
 ·refine Fin.nt results32 [] ?_ ?_ ?_ <;> try trivial
  (refine rsl ?_; try exact .intro)
  simp_all [Base.eq_iff]
 have eLimbo := h; clear h
 refine ck e94 (c94 x.Haz y.Haz (by omega) (by omega)) rfl ?_
 refine evl ?_
 constructor <;> intro h
 ·refine Fin.nt results32 [] ?_ ?_ ?_ <;> try trivial
  (refine rsl ?_; try exact .intro)
  simp_all [Base.eq_iff]
 have eHaz := h; clear h
 refine Fin.nt results32 [] ?_ ?_ ?_ <;> try trivial
 (refine rsl ?_; try exact .intro)
 simp_all [Base.eq_iff]
structure Sub where
 Kind : Int
 A : Int
 Pc : Int
 E : Int
 Row : Int
 B : Int
 H : Int
 Out : Int
 Code : Int
 Done : Bool
 deriving DecidableEq
def encSub (x : Sub) : List D := [.int .i64 x.Kind, .int .i64 x.A, .int .i64 x.Pc, .int .i64 x.E, .int .i64 x.Row, .int .i64 x.B, .int .i64 x.H, .int .i64 x.Out, .int .i64 x.Code, .bool x.Done]
def Sub.wf (x : Sub) : Prop := (Lit.int .i64 x.Kind).wf = true /\ (Lit.int .i64 x.A).wf = true /\ (Lit.int .i64 x.Pc).wf = true /\ (Lit.int .i64 x.E).wf = true /\ (Lit.int .i64 x.Row).wf = true /\ (Lit.int .i64 x.B).wf = true /\ (Lit.int .i64 x.H).wf = true /\ (Lit.int .i64 x.Out).wf = true /\ (Lit.int .i64 x.Code).wf = true /\ True
theorem Sub.eq_iff (x y : Sub) : x = y ↔ x.Kind = y.Kind /\ x.A = y.A /\ x.Pc = y.Pc /\ x.E = y.E /\ x.Row = y.Row /\ x.B = y.B /\ x.H = y.H /\ x.Out = y.Out /\ x.Code = y.Code /\ x.Done = y.Done := by cases x; cases y; simp
def Sub.lok (x : Sub) : Prop := True
def zeroSub : Sub := ⟨0, 0, 0, 0, 0, 0, 0, 0, 0, false⟩
theorem c186 (x y : Sub) : Ctr prog 186 [.agg ((encSub x).map .dat), .agg ((encSub y).map .dat)] [] (.one (.dat (.bool (decide (x = y))))) [] := by
 simp only [encSub, List.map_cons, List.map_nil]
 refine Ctr.bd mixed func186 rfl ?_
 refine evl ?_
 constructor <;> intro h
 ·refine Fin.nt results186 [] ?_ ?_ ?_ <;> try trivial
  (refine rsl ?_; try exact .intro)
  simp_all [Sub.eq_iff]
 have eKind := h; clear h
 constructor <;> intro h
 ·refine Fin.nt results186 [] ?_ ?_ ?_ <;> try trivial
  (refine rsl ?_; try exact .intro)
  simp_all [Sub.eq_iff]
 have eA := h; clear h
 constructor <;> intro h
 ·refine Fin.nt results186 [] ?_ ?_ ?_ <;> try trivial
  (refine rsl ?_; try exact .intro)
  simp_all [Sub.eq_iff]
 have ePc := h; clear h
 constructor <;> intro h
 ·refine Fin.nt results186 [] ?_ ?_ ?_ <;> try trivial
  (refine rsl ?_; try exact .intro)
  simp_all [Sub.eq_iff]
 have eE := h; clear h
 constructor <;> intro h
 ·refine Fin.nt results186 [] ?_ ?_ ?_ <;> try trivial
  (refine rsl ?_; try exact .intro)
  simp_all [Sub.eq_iff]
 have eRow := h; clear h
 constructor <;> intro h
 ·refine Fin.nt results186 [] ?_ ?_ ?_ <;> try trivial
  (refine rsl ?_; try exact .intro)
  simp_all [Sub.eq_iff]
 have eB := h; clear h
 constructor <;> intro h
 ·refine Fin.nt results186 [] ?_ ?_ ?_ <;> try trivial
  (refine rsl ?_; try exact .intro)
  simp_all [Sub.eq_iff]
 have eH := h; clear h
 constructor <;> intro h
 ·refine Fin.nt results186 [] ?_ ?_ ?_ <;> try trivial
  (refine rsl ?_; try exact .intro)
  simp_all [Sub.eq_iff]
 have eOut := h; clear h
 constructor <;> intro h
 ·refine Fin.nt results186 [] ?_ ?_ ?_ <;> try trivial
  (refine rsl ?_; try exact .intro)
  simp_all [Sub.eq_iff]
 have eCode := h; clear h
 constructor <;> intro h
 ·refine Fin.nt results186 [] ?_ ?_ ?_ <;> try trivial
  (refine rsl ?_; try exact .intro)
  simp_all [Sub.eq_iff]
 have eDone := h; clear h
 refine Fin.nt results186 [] ?_ ?_ ?_ <;> try trivial
 (refine rsl ?_; try exact .intro)
 simp_all [Sub.eq_iff]
def Node.lok (x : Node) : Prop := True
def zeroNode : Node := ⟨0, 0, 0⟩
def Bkt.lok (x : Bkt) : Prop := True
def zeroBkt : Bkt := ⟨0, 0, 0⟩
def Cmd.lok (x : Cmd) : Prop := True
def zeroCmd : Cmd := ⟨0, 0, 0⟩
theorem decCmd (n : Nat) (ds : List D) (h : WT prog n 326 ds) : ∃ x : Cmd, ds = encCmd x /\ x.wf /\ x.lok := by
 cases n with
 | zero => exact h.elim
 | succ n =>
  unfold WT at h
  rw [underlying326] at h
  simp only [List.toList_toArray, List.map_cons, List.map_nil, WTs] at h
  obtain ⟨_, _, rfl, h0, ⟨_, _, rfl, h1, ⟨_, _, rfl, h2, rfl⟩⟩⟩ := h
  obtain ⟨x0, rfl, w0⟩ := decInt underlying3 h0
  obtain ⟨x1, rfl, w1⟩ := decInt underlying3 h1
  obtain ⟨x2, rfl, w2⟩ := decInt underlying3 h2
  exact ⟨⟨x0, x1, x2⟩, rfl, ⟨w0, w1, w2, trivial⟩, trivial⟩
structure Batch where
 Collect : Bool
 Cmds : List Cmd
 deriving DecidableEq
def encBatch (x : Batch) : List D := [.bool x.Collect, .sl 3 (x.Cmds.map encCmd)]
def Batch.wf (x : Batch) : Prop := (∀ y ∈ x.Cmds, y.wf) /\ True
theorem Batch.eq_iff (x y : Batch) : x = y ↔ x.Collect = y.Collect /\ x.Cmds = y.Cmds := by cases x; cases y; simp
def Batch.lok (x : Batch) : Prop := x.Cmds.length <= maxLen /\ True
def sizBatch (x : Batch) : Nat := x.Cmds.length
def sizBatchS (l : List Batch) : Nat := l.length + (l.map sizBatch).sum
def zeroBatch : Batch := ⟨false, []⟩
theorem decBatch (n : Nat) (ds : List D) (h : WT prog n 171 ds) : ∃ x : Batch, ds = encBatch x /\ x.wf /\ x.lok := by
 cases n with
 | zero => exact h.elim
 | succ n =>
  unfold WT at h
  rw [underlying171] at h
  simp only [List.toList_toArray, List.map_cons, List.map_nil, WTs] at h
  obtain ⟨_, _, rfl, h0, ⟨_, _, rfl, h1, rfl⟩⟩ := h
  obtain ⟨x0, rfl⟩ := decBool underlying4 h0
  obtain ⟨x1, rfl, c1, w1⟩ := decSl (enc := encCmd) (q := fun x => x.wf /\ x.lok) underlying169 tc_326 decCmd h1
  exact ⟨⟨x0, x1⟩, rfl, ⟨fun y hy => (w1 y hy).1, trivial⟩, ⟨c1, trivial⟩⟩
theorem Batch.lok_of {x : Batch} (h : sizBatch x <= 16777216) : x.lok := by
 have hm : maxLen = 9223372036854775807 := rfl
 unfold sizBatch at h
 exact ⟨by omega, trivial⟩
theorem lokBatchS {l : List Batch} (h : sizBatchS l <= 16777216) : l.length <= maxLen /\ ∀ y ∈ l, y.lok := by
 have hm : maxLen = 9223372036854775807 := rfl
 unfold sizBatchS at h
 exact ⟨by omega, fun y hy => Batch.lok_of (by have := sum_mem sizBatch hy; omega)⟩
theorem c166 (x : Batch) (hk : x.lok) (left : Int) (h0 : 0 <= left) (h1 : left <= 1048576) : Ctr prog 166 [.agg ((encBatch x).map .dat), .one (.dat (.int .i64 left))] [] (.one (.dat (.int .i64 (szL left (sizBatch x))))) [] := by
 simp only [encBatch, List.map_cons, List.map_nil]
 unfold sizBatch
 refine Ctr.bd mixed func166 rfl ?_
 refine evl ?_
 obtain ⟨kCmds, _⟩ := hk
 refine CallK_pure e206 (c206 (x.Cmds.map encCmd) left h0 h1 (by simpa using kCmds)) rfl ?_
 refine evl ?_
 constructor <;> intro h
 ·refine Fin.nt results166 [] ?_ ?_ ?_ <;> try trivial
  (refine rsl ?_; try exact .intro)
  try simp only [List.length_map] at h
  exact szL_bad (h) (by omega)
 try simp only [List.length_map] at h
 have a0 : decide (szL left (x.Cmds.length) < 0) = false := h
 refine Fin.nt results166 [] ?_ ?_ ?_ <;> try trivial
 all_goals try ((refine rsl ?_; try exact .intro))
 all_goals try simp only [List.length_map]
theorem c171 (x : Batch) (h : sizBatch x <= 1048576) : Ctr prog 171 [.agg ((encBatch x).map .dat)] [] (.agg [.dat (.bool x.Collect), .own 0]) [.vec 3 true (x.Cmds.map encCmd)] := by
 simp only [encBatch, List.map_cons, List.map_nil]
 unfold sizBatch at h
 refine Ctr.bd mixed func171 rfl ?_
 refine evl ?_
 refine CallK_pure e229 (c229 x.Cmds (by omega)) rfl ?_
 refine evl ?_
 first | ((refine Fin.nt results171 [3] ?_ ?_ ?_ <;> try trivial) <;> (first | rfl | exact entd); done) | ((refine Fin.nt results171 [2] ?_ ?_ ?_ <;> try trivial) <;> (first | rfl | exact entd); done) | ((refine Fin.nt results171 [1] ?_ ?_ ?_ <;> try trivial) <;> (first | rfl | exact entd); done) | ((refine Fin.nt results171 [0] ?_ ?_ ?_ <;> try trivial) <;> (first | rfl | exact entd); done) | ((refine Fin.nt results171 [4] ?_ ?_ ?_ <;> try trivial) <;> (first | rfl | exact entd); done) | ((refine Fin.nt results171 [5] ?_ ?_ ?_ <;> try trivial) <;> (first | rfl | exact entd); done)
theorem c184 (x y : Batch) (hx : sizBatch x <= 1048576) (hy : sizBatch y <= 1048576) : Ctr prog 184 [.agg ((encBatch x).map .dat), .agg ((encBatch y).map .dat)] [] (.one (.dat (.bool (decide (x = y))))) [] := by
 simp only [encBatch, List.map_cons, List.map_nil]
 unfold sizBatch at hx hy
 have hm : maxLen = 9223372036854775807 := rfl
 refine Ctr.bd mixed func184 rfl ?_
 refine evl ?_
 constructor <;> intro h
 ·refine Fin.nt results184 [] ?_ ?_ ?_ <;> try trivial
  (refine rsl ?_; try exact .intro)
  simp_all [Batch.eq_iff]
 have eCollect := h; clear h
 refine ck e190 (c190 x.Cmds y.Cmds (by omega) (by omega)) rfl ?_
 refine evl ?_
 constructor <;> intro h
 ·refine Fin.nt results184 [] ?_ ?_ ?_ <;> try trivial
  (refine rsl ?_; try exact .intro)
  simp_all [Batch.eq_iff]
 have eCmds := h; clear h
 refine Fin.nt results184 [] ?_ ?_ ?_ <;> try trivial
 (refine rsl ?_; try exact .intro)
 simp_all [Batch.eq_iff]
theorem c73 (l : List Batch) (hl : l.length <= maxLen) (hk : ∀ y ∈ l, y.lok) (left : Int) (h0 : 0 <= left) (h1 : left <= 1048576) : Ctr prog 73 [.one (.dat (.sl 2 (l.map encBatch))), .one (.dat (.int .i64 left))] [] (.one (.dat (.int .i64 (szL left (sizBatchS l))))) [] := by
 have hw := szL_wrap h0 h1 hl
 unfold sizBatchS
 refine Ctr.bd mixed func73 rfl ?_
 refine sv3 ?_
 constructor <;> intro h
 ·refine Fin.nt results73 [] ?_ ?_ ?_ <;> try trivial
  (refine rsl ?_; try exact .intro)
  exact szL_bad (left := left) (a := l.length) (by rw [szL_raw]; exact h) (by omega)
 have a0 : decide (szL left l.length < 0) = false := by rw [szL_raw]; exact h
 have e0 : left - (l.length : Int) = szL left (l.length + ((l.take 0).map sizBatch).sum) := by
  have := (szL_le h1 a0).2.1; simp; exact this.symm
 rw [e0]
 refine LoopK_intro (fun n s => ∃ i : Nat, i <= l.length /\ n = l.length - i /\ decide (szL left (l.length + ((l.take i).map sizBatch).sum) < 0) = false /\ s = mkSt [(5, .one (.dat (.int .i64 i))), (1, .one (.dat (.int .i64 (szL left (l.length + ((l.take i).map sizBatch).sum))))), (0, .one (.dat (.sl 2 (l.map encBatch))))] []) l.length _
  (Ent.wk []) ⟨0, by omega, by omega, by simpa using a0, rfl⟩ ?_
 rintro n s ⟨i, hi, rfl, ht, rfl⟩ K hK
 rcases Nat.lt_or_ge i l.length with hlt | hge
 ·have hdi : decide ((i : Int) < l.length) = true := by simpa using hlt
  have hwi := wrap_succ hlt hl
  have hs := sum_take_succ sizBatch hlt
  have hs2 := sum_take_le sizBatch l (i + 1)
  obtain ⟨_, _, g, u⟩ := szL_le h1 ht
  simp (maxSteps := 2000000) only [go_sem, seval, hdi, hwi, getD_map hlt, encBatch]
  refine ⟨⟨by omega, by omega⟩, hlt, ?_⟩
  refine CallK_pure e166 (c166 l[i] (hk _ (List.getElem_mem hlt)) _ g u) rfl ?_
  simp (maxSteps := 2000000) only [go_sem, seval, hwi, szL_at h0 ht]
  rw [Nat.add_assoc, <- hs]
  constructor <;> intro h
  ·apply hK
   refine evl ?_
   refine Fin.nt results73 [] ?_ ?_ ?_ <;> try trivial
   (refine rsl ?_; try exact .intro)
   exact szL_bad h (by omega)
  ·apply hK
   exact ⟨l.length - (i + 1), _, by omega, Ent.wk [], i + 1, by omega, rfl, h, rfl⟩
 ·have hge' : i = l.length := by omega
  subst hge'
  have hdi : decide ((l.length : Int) < l.length) = false := by simp
  refine sv4 ?_
  apply hK
  refine evl ?_
  refine Fin.nt results73 [] ?_ ?_ ?_ <;> try trivial
  all_goals try ((refine rsl ?_; try exact .intro))
  all_goals simp
theorem c80 (l : List Batch) (h : sizBatchS l <= 1048576) : Ctr prog 80 [.one (.dat (.sl 2 (l.map encBatch)))] [] (.one (.own 0)) [.vec 2 true (l.map encBatch)] := by
 have hl : l.length <= 1048576 := by unfold sizBatchS at h; omega
 refine Ctr.bd mixed func80 rfl ?_
 refine evl ?_
 refine ⟨by omega, ?_⟩
 refine LoopK_intro (fun n s => ∃ i : Nat, i <= l.length /\ n = l.length - i /\ s = mkSt [(4, .one (.dat (.int .i64 i))), (3, .one (.own 0)), (0, .one (.dat (.sl 2 (l.map encBatch))))]
   [.vec 2 true ((l.take i).map encBatch ++ List.replicate (l.length - i) [.bool false, .sl 3 []])]) l.length _
  (Ent.wk [0]) ⟨0, by omega, by omega, rfl⟩ ?_
 rintro n s ⟨i, hi, rfl, rfl⟩ K hK
 rcases Nat.lt_or_ge i l.length with hlt | hge
 ·have hdi : decide ((i : Int) < l.length) = true := by simpa using hlt
  simp (maxSteps := 2000000) only [go_sem, seval, hdi, getD_map hlt, encBatch, D.flat, wrap_succ hlt (le20 hl)]
  first | refine ⟨⟨by omega, by omega⟩, hlt, ?_⟩ | refine ⟨by omega, hlt, ?_⟩
  refine CallK_pure e171 (c171 l[i] (by have := sum_get sizBatch hlt; unfold sizBatchS at h; omega)) rfl ?_
  simp (maxSteps := 2000000) only [go_sem, seval, encBatch, D.flat, wrap_succ hlt (le20 hl)]
  repeat' ((with_reducible show _ /\ _); apply And.intro)
  all_goals first
   | (apply hK
      refine ⟨l.length - (i + 1), _, by omega, Ent.weak (ids := [0]) (by simp) rfl (by simp) ?_ ?_ ?_, i + 1, by omega, rfl, rfl⟩
      ·simp only [objsLe, St.obj, find, AObj.renF, if_true, Option.getD_some, List.getD_cons_zero, and_true]
       rw [<- take_set encBatch l _ hlt]
       exact ⟨by simp, Or.inr rfl⟩
      ·simp [objsLe, envLe, find, St.obj, AObj.renF, AV.renF, AV.renF1, Leaf.renF, LowAll, AV.Low, AV.Low1, Leaf.Low, AObj.Low, Ptr.renF, Ptr.Low]
      ·simp [objsLe, envLe, find, St.obj, AObj.renF, AV.renF, AV.renF1, Leaf.renF, LowAll, AV.Low, AV.Low1, Leaf.Low, AObj.Low, Ptr.renF, Ptr.Low])
   | omega
   | decide
   | (simp; done)
   | (simp; omega)
   | trivial
 ·have hge' : i = l.length := by omega
  subst hge'
  have hdi : decide ((l.length : Int) < l.length) = false := by simp
  refine sv4 ?_
  apply hK
  refine evl ?_
  refine Fin.nt results80 [0] ?_ ?_ ?_ <;> try trivial
  all_goals simp [objsLe, St.obj, find, AObj.renF]
theorem c98 (l l' : List Batch) (h0 : sizBatchS l <= 1048576) (h0' : sizBatchS l' <= 1048576) : Ctr prog 98 [.one (.dat (.sl 2 (l.map encBatch))), .one (.dat (.sl 2 (l'.map encBatch)))] [] (.one (.dat (.bool (decide (l = l'))))) [] := by
 have hl : l.length <= maxLen := (lokBatchS (by omega)).1
 have hl' : l'.length <= maxLen := (lokBatchS (by omega)).1
 refine Ctr.bd mixed func98 rfl ?_
 refine evl ?_
 constructor <;> intro h
 ·have hne : l.length ≠ l'.length := by simp at h; omega
  refine Fin.nt results98 [] ?_ ?_ ?_ <;> try trivial
  (refine rsl ?_; try exact .intro)
  symm; rw [decide_eq_false_iff_not]
  intro e; exact hne (by rw [e])
 have hlen : l.length = l'.length := by simp at h; omega
 refine LoopK_intro (fun n s => ∃ i : Nat, i <= l.length /\ n = l.length - i /\ l.take i = l'.take i /\ s = mkSt [(5, .one (.dat (.int .i64 i))), (1, .one (.dat (.sl 2 (l'.map encBatch)))), (0, .one (.dat (.sl 2 (l.map encBatch))))] []) l.length _
  (Ent.wk []) ⟨0, by omega, by omega, rfl, rfl⟩ ?_
 rintro n s ⟨i, hi, rfl, ht, rfl⟩ K hK
 rcases Nat.lt_or_ge i l.length with hlt | hge
 ·have hdi : decide ((i : Int) < l.length) = true := by simpa using hlt
  have hlt' : i < l'.length := by omega
  simp (maxSteps := 2000000) only [go_sem, seval, hdi, wrap_succ hlt hl, getD_map hlt, getD_map hlt', encBatch]
  refine ⟨⟨by omega, by omega⟩, hlt, ⟨by omega, by omega⟩, hlt', ?_⟩
  first
   | refine CCallK_intro e184 (fun _ => ⟨trivial, c184 l[i] l'[i] (by have := sum_get sizBatch hlt; unfold sizBatchS at h0; omega) (by have := sum_get sizBatch hlt'; unfold sizBatchS at h0'; omega)⟩) rfl rfl ?_
   | refine Or.inl (CCallK_intro e184 (fun _ => ⟨trivial, c184 l[i] l'[i] (by have := sum_get sizBatch hlt; unfold sizBatchS at h0; omega) (by have := sum_get sizBatch hlt'; unfold sizBatchS at h0'; omega)⟩) rfl rfl ?_)
  refine sv0 ?_
  constructor <;> intro h
  ·apply hK
   refine evl ?_
   refine Fin.nt results98 [] ?_ ?_ ?_ <;> try trivial
   (refine rsl ?_; try exact .intro)
   symm; rw [decide_eq_false_iff_not]
   rintro rfl; simp at h
  ·apply hK
   have he : l[i] = l'[i] := by simpa using h
   exact ⟨l.length - (i + 1), _, by omega, Ent.wk [], i + 1, by omega, rfl, by rw [List.take_succ_eq_append_getElem hlt, List.take_succ_eq_append_getElem hlt', ht, he], rfl⟩
 ·have hge' : i = l.length := by omega
  subst hge'
  have hdi : decide ((l.length : Int) < l.length) = false := by simp
  refine sv4 ?_
  apply hK
  refine evl ?_
  refine Fin.nt results98 [] ?_ ?_ ?_ <;> try trivial
  (refine rsl ?_; try exact .intro)
  symm; rw [decide_eq_true_iff]
  rw [List.take_of_length_le (Nat.le_refl _), List.take_of_length_le (by omega)] at ht
  exact ht
structure TQueue where
 List : List Batch
 deriving DecidableEq
def encTQueue (x : TQueue) : List D := [.sl 2 (x.List.map encBatch)]
def TQueue.wf (x : TQueue) : Prop := (∀ y ∈ x.List, y.wf) /\ True
theorem TQueue.eq_iff (x y : TQueue) : x = y ↔ x.List = y.List := by cases x; cases y; simp
def TQueue.lok (x : TQueue) : Prop := x.List.length <= maxLen /\ (∀ y ∈ x.List, y.lok) /\ True
def sizTQueue (x : TQueue) : Nat := sizBatchS x.List
def sizTQueueS (l : List TQueue) : Nat := l.length + (l.map sizTQueue).sum
def zeroTQueue : TQueue := ⟨[]⟩
theorem decTQueue (n : Nat) (ds : List D) (h : WT prog n 79 ds) : ∃ x : TQueue, ds = encTQueue x /\ x.wf /\ x.lok := by
 cases n with
 | zero => exact h.elim
 | succ n =>
  unfold WT at h
  rw [underlying79] at h
  simp only [List.toList_toArray, List.map_cons, List.map_nil, WTs] at h
  obtain ⟨_, _, rfl, h0, rfl⟩ := h
  obtain ⟨x0, rfl, c0, w0⟩ := decSl (enc := encBatch) (q := fun x => x.wf /\ x.lok) underlying77 tc_171 decBatch h0
  exact ⟨⟨x0⟩, rfl, ⟨fun y hy => (w0 y hy).1, trivial⟩, ⟨c0, fun y hy => (w0 y hy).2, trivial⟩⟩
theorem TQueue.lok_of {x : TQueue} (h : sizTQueue x <= 16777216) : x.lok := by
 have hm : maxLen = 9223372036854775807 := rfl
 unfold sizTQueue at h
 unfold sizBatchS at h
 exact ⟨by omega, fun y hy => Batch.lok_of (by have := sum_mem sizBatch hy; omega), trivial⟩
theorem lokTQueueS {l : List TQueue} (h : sizTQueueS l <= 16777216) : l.length <= maxLen /\ ∀ y ∈ l, y.lok := by
 have hm : maxLen = 9223372036854775807 := rfl
 unfold sizTQueueS at h
 exact ⟨by omega, fun y hy => TQueue.lok_of (by have := sum_mem sizTQueue hy; omega)⟩
theorem c24 (x : TQueue) (hk : x.lok) (left : Int) (h0 : 0 <= left) (h1 : left <= 1048576) : Ctr prog 24 [.agg ((encTQueue x).map .dat), .one (.dat (.int .i64 left))] [] (.one (.dat (.int .i64 (szL left (sizTQueue x))))) [] := by
 simp only [encTQueue, List.map_cons, List.map_nil]
 unfold sizTQueue
 refine Ctr.bd mixed func24 rfl ?_
 refine evl ?_
 obtain ⟨kList, qList, _⟩ := hk
 refine CallK_pure e73 (c73 x.List kList qList left h0 h1) rfl ?_
 refine evl ?_
 constructor <;> intro h
 ·refine Fin.nt results24 [] ?_ ?_ ?_ <;> try trivial
  (refine rsl ?_; try exact .intro)
  try simp only [List.length_map] at h
  exact szL_bad (h) (by omega)
 try simp only [List.length_map] at h
 have a0 : decide (szL left (sizBatchS x.List) < 0) = false := h
 refine Fin.nt results24 [] ?_ ?_ ?_ <;> try trivial
 all_goals try ((refine rsl ?_; try exact .intro))
 all_goals try simp only [List.length_map]
theorem c28 (x : TQueue) (h : sizTQueue x <= 1048576) : Ctr prog 28 [.agg ((encTQueue x).map .dat)] [] (.agg [.own 0]) [.vec 2 true (x.List.map encBatch)] := by
 simp only [encTQueue, List.map_cons, List.map_nil]
 unfold sizTQueue at h
 refine Ctr.bd mixed func28 rfl ?_
 refine evl ?_
 refine CallK_pure e80 (c80 x.List (by omega)) rfl ?_
 refine evl ?_
 first | ((refine Fin.nt results28 [3] ?_ ?_ ?_ <;> try trivial) <;> (first | rfl | exact entd); done) | ((refine Fin.nt results28 [2] ?_ ?_ ?_ <;> try trivial) <;> (first | rfl | exact entd); done) | ((refine Fin.nt results28 [1] ?_ ?_ ?_ <;> try trivial) <;> (first | rfl | exact entd); done) | ((refine Fin.nt results28 [0] ?_ ?_ ?_ <;> try trivial) <;> (first | rfl | exact entd); done) | ((refine Fin.nt results28 [4] ?_ ?_ ?_ <;> try trivial) <;> (first | rfl | exact entd); done) | ((refine Fin.nt results28 [5] ?_ ?_ ?_ <;> try trivial) <;> (first | rfl | exact entd); done)
theorem c36 (x y : TQueue) (hx : sizTQueue x <= 1048576) (hy : sizTQueue y <= 1048576) : Ctr prog 36 [.agg ((encTQueue x).map .dat), .agg ((encTQueue y).map .dat)] [] (.one (.dat (.bool (decide (x = y))))) [] := by
 simp only [encTQueue, List.map_cons, List.map_nil]
 unfold sizTQueue at hx hy
 have hm : maxLen = 9223372036854775807 := rfl
 refine Ctr.bd mixed func36 rfl ?_
 refine evl ?_
 refine ck e98 (c98 x.List y.List (by omega) (by omega)) rfl ?_
 refine evl ?_
 constructor <;> intro h
 ·refine Fin.nt results36 [] ?_ ?_ ?_ <;> try trivial
  (refine rsl ?_; try exact .intro)
  simp_all [TQueue.eq_iff]
 have eList := h; clear h
 refine Fin.nt results36 [] ?_ ?_ ?_ <;> try trivial
 (refine rsl ?_; try exact .intro)
 simp_all [TQueue.eq_iff]
theorem c6 (l : List TQueue) (hl : l.length <= maxLen) (hk : ∀ y ∈ l, y.lok) (left : Int) (h0 : 0 <= left) (h1 : left <= 1048576) : Ctr prog 6 [.one (.dat (.sl 1 (l.map encTQueue))), .one (.dat (.int .i64 left))] [] (.one (.dat (.int .i64 (szL left (sizTQueueS l))))) [] := by
 have hw := szL_wrap h0 h1 hl
 unfold sizTQueueS
 refine Ctr.bd mixed func6 rfl ?_
 refine sv3 ?_
 constructor <;> intro h
 ·refine Fin.nt results6 [] ?_ ?_ ?_ <;> try trivial
  (refine rsl ?_; try exact .intro)
  exact szL_bad (left := left) (a := l.length) (by rw [szL_raw]; exact h) (by omega)
 have a0 : decide (szL left l.length < 0) = false := by rw [szL_raw]; exact h
 have e0 : left - (l.length : Int) = szL left (l.length + ((l.take 0).map sizTQueue).sum) := by
  have := (szL_le h1 a0).2.1; simp; exact this.symm
 rw [e0]
 refine LoopK_intro (fun n s => ∃ i : Nat, i <= l.length /\ n = l.length - i /\ decide (szL left (l.length + ((l.take i).map sizTQueue).sum) < 0) = false /\ s = mkSt [(5, .one (.dat (.int .i64 i))), (1, .one (.dat (.int .i64 (szL left (l.length + ((l.take i).map sizTQueue).sum))))), (0, .one (.dat (.sl 1 (l.map encTQueue))))] []) l.length _
  (Ent.wk []) ⟨0, by omega, by omega, by simpa using a0, rfl⟩ ?_
 rintro n s ⟨i, hi, rfl, ht, rfl⟩ K hK
 rcases Nat.lt_or_ge i l.length with hlt | hge
 ·have hdi : decide ((i : Int) < l.length) = true := by simpa using hlt
  have hwi := wrap_succ hlt hl
  have hs := sum_take_succ sizTQueue hlt
  have hs2 := sum_take_le sizTQueue l (i + 1)
  obtain ⟨_, _, g, u⟩ := szL_le h1 ht
  simp (maxSteps := 2000000) only [go_sem, seval, hdi, hwi, getD_map hlt, encTQueue]
  refine ⟨⟨by omega, by omega⟩, hlt, ?_⟩
  refine CallK_pure e24 (c24 l[i] (hk _ (List.getElem_mem hlt)) _ g u) rfl ?_
  simp (maxSteps := 2000000) only [go_sem, seval, hwi, szL_at h0 ht]
  rw [Nat.add_assoc, <- hs]
  constructor <;> intro h
  ·apply hK
   refine evl ?_
   refine Fin.nt results6 [] ?_ ?_ ?_ <;> try trivial
   (refine rsl ?_; try exact .intro)
   exact szL_bad h (by omega)
  ·apply hK
   exact ⟨l.length - (i + 1), _, by omega, Ent.wk [], i + 1, by omega, rfl, h, rfl⟩
 ·have hge' : i = l.length := by omega
  subst hge'
  have hdi : decide ((l.length : Int) < l.length) = false := by simp
  refine sv4 ?_
  apply hK
  refine evl ?_
  refine Fin.nt results6 [] ?_ ?_ ?_ <;> try trivial
  all_goals try ((refine rsl ?_; try exact .intro))
  all_goals simp
theorem c8 (l : List TQueue) (h : sizTQueueS l <= 1048576) : Ctr prog 8 [.one (.dat (.sl 1 (l.map encTQueue)))] [] (.one (.own 0)) [.vec 1 true (l.map encTQueue)] := by
 have hl : l.length <= 1048576 := by unfold sizTQueueS at h; omega
 refine Ctr.bd mixed func8 rfl ?_
 refine evl ?_
 refine ⟨by omega, ?_⟩
 refine LoopK_intro (fun n s => ∃ i : Nat, i <= l.length /\ n = l.length - i /\ s = mkSt [(4, .one (.dat (.int .i64 i))), (3, .one (.own 0)), (0, .one (.dat (.sl 1 (l.map encTQueue))))]
   [.vec 1 true ((l.take i).map encTQueue ++ List.replicate (l.length - i) [.sl 2 []])]) l.length _
  (Ent.wk [0]) ⟨0, by omega, by omega, rfl⟩ ?_
 rintro n s ⟨i, hi, rfl, rfl⟩ K hK
 rcases Nat.lt_or_ge i l.length with hlt | hge
 ·have hdi : decide ((i : Int) < l.length) = true := by simpa using hlt
  simp (maxSteps := 2000000) only [go_sem, seval, hdi, getD_map hlt, encTQueue, D.flat, wrap_succ hlt (le20 hl)]
  first | refine ⟨⟨by omega, by omega⟩, hlt, ?_⟩ | refine ⟨by omega, hlt, ?_⟩
  refine CallK_pure e28 (c28 l[i] (by have := sum_get sizTQueue hlt; unfold sizTQueueS at h; omega)) rfl ?_
  simp (maxSteps := 2000000) only [go_sem, seval, encTQueue, D.flat, wrap_succ hlt (le20 hl)]
  repeat' ((with_reducible show _ /\ _); apply And.intro)
  all_goals first
   | (apply hK
      refine ⟨l.length - (i + 1), _, by omega, Ent.weak (ids := [0]) (by simp) rfl (by simp) ?_ ?_ ?_, i + 1, by omega, rfl, rfl⟩
      ·simp only [objsLe, St.obj, find, AObj.renF, if_true, Option.getD_some, List.getD_cons_zero, and_true]
       rw [<- take_set encTQueue l _ hlt]
       exact ⟨by simp, Or.inr rfl⟩
      ·simp [objsLe, envLe, find, St.obj, AObj.renF, AV.renF, AV.renF1, Leaf.renF, LowAll, AV.Low, AV.Low1, Leaf.Low, AObj.Low, Ptr.renF, Ptr.Low]
      ·simp [objsLe, envLe, find, St.obj, AObj.renF, AV.renF, AV.renF1, Leaf.renF, LowAll, AV.Low, AV.Low1, Leaf.Low, AObj.Low, Ptr.renF, Ptr.Low])
   | omega
   | decide
   | (simp; done)
   | (simp; omega)
   | trivial
 ·have hge' : i = l.length := by omega
  subst hge'
  have hdi : decide ((l.length : Int) < l.length) = false := by simp
  refine sv4 ?_
  apply hK
  refine evl ?_
  refine Fin.nt results8 [0] ?_ ?_ ?_ <;> try trivial
  all_goals simp [objsLe, St.obj, find, AObj.renF]
theorem c11 (l l' : List TQueue) (h0 : sizTQueueS l <= 1048576) (h0' : sizTQueueS l' <= 1048576) : Ctr prog 11 [.one (.dat (.sl 1 (l.map encTQueue))), .one (.dat (.sl 1 (l'.map encTQueue)))] [] (.one (.dat (.bool (decide (l = l'))))) [] := by
 have hl : l.length <= maxLen := (lokTQueueS (by omega)).1
 have hl' : l'.length <= maxLen := (lokTQueueS (by omega)).1
 refine Ctr.bd mixed func11 rfl ?_
 refine evl ?_
 constructor <;> intro h
 ·have hne : l.length ≠ l'.length := by simp at h; omega
  refine Fin.nt results11 [] ?_ ?_ ?_ <;> try trivial
  (refine rsl ?_; try exact .intro)
  symm; rw [decide_eq_false_iff_not]
  intro e; exact hne (by rw [e])
 have hlen : l.length = l'.length := by simp at h; omega
 refine LoopK_intro (fun n s => ∃ i : Nat, i <= l.length /\ n = l.length - i /\ l.take i = l'.take i /\ s = mkSt [(5, .one (.dat (.int .i64 i))), (1, .one (.dat (.sl 1 (l'.map encTQueue)))), (0, .one (.dat (.sl 1 (l.map encTQueue))))] []) l.length _
  (Ent.wk []) ⟨0, by omega, by omega, rfl, rfl⟩ ?_
 rintro n s ⟨i, hi, rfl, ht, rfl⟩ K hK
 rcases Nat.lt_or_ge i l.length with hlt | hge
 ·have hdi : decide ((i : Int) < l.length) = true := by simpa using hlt
  have hlt' : i < l'.length := by omega
  simp (maxSteps := 2000000) only [go_sem, seval, hdi, wrap_succ hlt hl, getD_map hlt, getD_map hlt', encTQueue]
  refine ⟨⟨by omega, by omega⟩, hlt, ⟨by omega, by omega⟩, hlt', ?_⟩
  first
   | refine CCallK_intro e36 (fun _ => ⟨trivial, c36 l[i] l'[i] (by have := sum_get sizTQueue hlt; unfold sizTQueueS at h0; omega) (by have := sum_get sizTQueue hlt'; unfold sizTQueueS at h0'; omega)⟩) rfl rfl ?_
   | refine Or.inl (CCallK_intro e36 (fun _ => ⟨trivial, c36 l[i] l'[i] (by have := sum_get sizTQueue hlt; unfold sizTQueueS at h0; omega) (by have := sum_get sizTQueue hlt'; unfold sizTQueueS at h0'; omega)⟩) rfl rfl ?_)
  refine sv0 ?_
  constructor <;> intro h
  ·apply hK
   refine evl ?_
   refine Fin.nt results11 [] ?_ ?_ ?_ <;> try trivial
   (refine rsl ?_; try exact .intro)
   symm; rw [decide_eq_false_iff_not]
   rintro rfl; simp at h
  ·apply hK
   have he : l[i] = l'[i] := by simpa using h
   exact ⟨l.length - (i + 1), _, by omega, Ent.wk [], i + 1, by omega, rfl, by rw [List.take_succ_eq_append_getElem hlt, List.take_succ_eq_append_getElem hlt', ht, he], rfl⟩
 ·have hge' : i = l.length := by omega
  subst hge'
  have hdi : decide ((l.length : Int) < l.length) = false := by simp
  refine sv4 ?_
  apply hK
  refine evl ?_
  refine Fin.nt results11 [] ?_ ?_ ?_ <;> try trivial
  (refine rsl ?_; try exact .intro)
  symm; rw [decide_eq_true_iff]
  rw [List.take_of_length_le (Nat.le_refl _), List.take_of_length_le (by omega)] at ht
  exact ht
structure TJob where
 Busy : Bool
 Batch : Batch
 Serial : Int
 Pc : Int
 At : Int
 K : Int
 Bkt : Int
 Ver : Int
 H : Int
 Prev : Int
 Node : Node
 Found : Bool
 Code : Int
 Sub : Sub
 Reads : List Seen
 Writes : List Write
 Res : List Res
 New : List Int
 Held : List Int
 Olds : List Int
 deriving DecidableEq
def encTJob (x : TJob) : List D := [.bool x.Busy, .bool x.Batch.Collect, .sl 3 (x.Batch.Cmds.map encCmd), .int .i64 x.Serial, .int .i64 x.Pc, .int .i64 x.At, .int .i64 x.K, .int .i64 x.Bkt, .int .i64 x.Ver, .int .i64 x.H, .int .i64 x.Prev, .int .i64 x.Node.Key, .int .i64 x.Node.Val, .int .i64 x.Node.Next, .bool x.Found, .int .i64 x.Code, .int .i64 x.Sub.Kind, .int .i64 x.Sub.A, .int .i64 x.Sub.Pc, .int .i64 x.Sub.E, .int .i64 x.Sub.Row, .int .i64 x.Sub.B, .int .i64 x.Sub.H, .int .i64 x.Sub.Out, .int .i64 x.Sub.Code, .bool x.Sub.Done, .sl 2 (x.Reads.map encSeen), .sl 3 (x.Writes.map encWrite), .sl 2 (x.Res.map encRes), .sl 1 (x.New.map encI), .sl 1 (x.Held.map encI), .sl 1 (x.Olds.map encI)]
def TJob.wf (x : TJob) : Prop := x.Batch.wf /\ (Lit.int .i64 x.Serial).wf = true /\ (Lit.int .i64 x.Pc).wf = true /\ (Lit.int .i64 x.At).wf = true /\ (Lit.int .i64 x.K).wf = true /\ (Lit.int .i64 x.Bkt).wf = true /\ (Lit.int .i64 x.Ver).wf = true /\ (Lit.int .i64 x.H).wf = true /\ (Lit.int .i64 x.Prev).wf = true /\ x.Node.wf /\ (Lit.int .i64 x.Code).wf = true /\ x.Sub.wf /\ (∀ y ∈ x.Reads, y.wf) /\ (∀ y ∈ x.Writes, y.wf) /\ (∀ y ∈ x.Res, y.wf) /\ (∀ y ∈ x.New, (Lit.int .i64 y).wf = true) /\ (∀ y ∈ x.Held, (Lit.int .i64 y).wf = true) /\ (∀ y ∈ x.Olds, (Lit.int .i64 y).wf = true) /\ True
theorem TJob.eq_iff (x y : TJob) : x = y ↔ x.Busy = y.Busy /\ x.Batch = y.Batch /\ x.Serial = y.Serial /\ x.Pc = y.Pc /\ x.At = y.At /\ x.K = y.K /\ x.Bkt = y.Bkt /\ x.Ver = y.Ver /\ x.H = y.H /\ x.Prev = y.Prev /\ x.Node = y.Node /\ x.Found = y.Found /\ x.Code = y.Code /\ x.Sub = y.Sub /\ x.Reads = y.Reads /\ x.Writes = y.Writes /\ x.Res = y.Res /\ x.New = y.New /\ x.Held = y.Held /\ x.Olds = y.Olds := by cases x; cases y; simp
def TJob.lok (x : TJob) : Prop := x.Batch.lok /\ x.Reads.length <= maxLen /\ x.Writes.length <= maxLen /\ x.Res.length <= maxLen /\ x.New.length <= maxLen /\ x.Held.length <= maxLen /\ x.Olds.length <= maxLen /\ True
def sizTJob (x : TJob) : Nat := sizBatch x.Batch + x.Reads.length + x.Writes.length + x.Res.length + x.New.length + x.Held.length + x.Olds.length
def sizTJobS (l : List TJob) : Nat := l.length + (l.map sizTJob).sum
def zeroTJob : TJob := ⟨false, zeroBatch, 0, 0, 0, 0, 0, 0, 0, 0, zeroNode, false, 0, zeroSub, [], [], [], [], [], []⟩
theorem TJob.lok_of {x : TJob} (h : sizTJob x <= 16777216) : x.lok := by
 have hm : maxLen = 9223372036854775807 := rfl
 unfold sizTJob at h
 exact ⟨Batch.lok_of (by omega), by omega, by omega, by omega, by omega, by omega, by omega, trivial⟩
theorem lokTJobS {l : List TJob} (h : sizTJobS l <= 16777216) : l.length <= maxLen /\ ∀ y ∈ l, y.lok := by
 have hm : maxLen = 9223372036854775807 := rfl
 unfold sizTJobS at h
 exact ⟨by omega, fun y hy => TJob.lok_of (by have := sum_mem sizTJob hy; omega)⟩
theorem c96 (x y : TJob) (hx : sizTJob x <= 1048576) (hy : sizTJob y <= 1048576) : Ctr prog 96 [.agg ((encTJob x).map .dat), .agg ((encTJob y).map .dat)] [] (.one (.dat (.bool (decide (x = y))))) [] := by
 simp only [encTJob, List.map_cons, List.map_nil]
 unfold sizTJob at hx hy
 have hm : maxLen = 9223372036854775807 := rfl
 refine Ctr.bd mixed func96 rfl ?_
 refine evl ?_
 constructor <;> intro h
 ·refine Fin.nt results96 [] ?_ ?_ ?_ <;> try trivial
  (refine rsl ?_; try exact .intro)
  simp_all [TJob.eq_iff]
 have eBusy := h; clear h
 refine ck e184 (c184 x.Batch y.Batch (by omega) (by omega)) rfl ?_
 refine evl ?_
 constructor <;> intro h
 ·refine Fin.nt results96 [] ?_ ?_ ?_ <;> try trivial
  (refine rsl ?_; try exact .intro)
  simp_all [TJob.eq_iff]
 have eBatch := h; clear h
 constructor <;> intro h
 ·refine Fin.nt results96 [] ?_ ?_ ?_ <;> try trivial
  (refine rsl ?_; try exact .intro)
  simp_all [TJob.eq_iff]
 have eSerial := h; clear h
 constructor <;> intro h
 ·refine Fin.nt results96 [] ?_ ?_ ?_ <;> try trivial
  (refine rsl ?_; try exact .intro)
  simp_all [TJob.eq_iff]
 have ePc := h; clear h
 constructor <;> intro h
 ·refine Fin.nt results96 [] ?_ ?_ ?_ <;> try trivial
  (refine rsl ?_; try exact .intro)
  simp_all [TJob.eq_iff]
 have eAt := h; clear h
 constructor <;> intro h
 ·refine Fin.nt results96 [] ?_ ?_ ?_ <;> try trivial
  (refine rsl ?_; try exact .intro)
  simp_all [TJob.eq_iff]
 have eK := h; clear h
 constructor <;> intro h
 ·refine Fin.nt results96 [] ?_ ?_ ?_ <;> try trivial
  (refine rsl ?_; try exact .intro)
  simp_all [TJob.eq_iff]
 have eBkt := h; clear h
 constructor <;> intro h
 ·refine Fin.nt results96 [] ?_ ?_ ?_ <;> try trivial
  (refine rsl ?_; try exact .intro)
  simp_all [TJob.eq_iff]
 have eVer := h; clear h
 constructor <;> intro h
 ·refine Fin.nt results96 [] ?_ ?_ ?_ <;> try trivial
  (refine rsl ?_; try exact .intro)
  simp_all [TJob.eq_iff]
 have eH := h; clear h
 constructor <;> intro h
 ·refine Fin.nt results96 [] ?_ ?_ ?_ <;> try trivial
  (refine rsl ?_; try exact .intro)
  simp_all [TJob.eq_iff]
 have ePrev := h; clear h
 refine ck e185 (c185 x.Node y.Node) rfl ?_
 refine evl ?_
 constructor <;> intro h
 ·refine Fin.nt results96 [] ?_ ?_ ?_ <;> try trivial
  (refine rsl ?_; try exact .intro)
  simp_all [TJob.eq_iff]
 have eNode := h; clear h
 constructor <;> intro h
 ·refine Fin.nt results96 [] ?_ ?_ ?_ <;> try trivial
  (refine rsl ?_; try exact .intro)
  simp_all [TJob.eq_iff]
 have eFound := h; clear h
 constructor <;> intro h
 ·refine Fin.nt results96 [] ?_ ?_ ?_ <;> try trivial
  (refine rsl ?_; try exact .intro)
  simp_all [TJob.eq_iff]
 have eCode := h; clear h
 refine ck e186 (c186 x.Sub y.Sub) rfl ?_
 refine evl ?_
 constructor <;> intro h
 ·refine Fin.nt results96 [] ?_ ?_ ?_ <;> try trivial
  (refine rsl ?_; try exact .intro)
  simp_all [TJob.eq_iff]
 have eSub := h; clear h
 refine ck e187 (c187 x.Reads y.Reads (by omega) (by omega)) rfl ?_
 refine evl ?_
 constructor <;> intro h
 ·refine Fin.nt results96 [] ?_ ?_ ?_ <;> try trivial
  (refine rsl ?_; try exact .intro)
  simp_all [TJob.eq_iff]
 have eReads := h; clear h
 refine ck e188 (c188 x.Writes y.Writes (by omega) (by omega)) rfl ?_
 refine evl ?_
 constructor <;> intro h
 ·refine Fin.nt results96 [] ?_ ?_ ?_ <;> try trivial
  (refine rsl ?_; try exact .intro)
  simp_all [TJob.eq_iff]
 have eWrites := h; clear h
 refine ck e189 (c189 x.Res y.Res (by omega) (by omega)) rfl ?_
 refine evl ?_
 constructor <;> intro h
 ·refine Fin.nt results96 [] ?_ ?_ ?_ <;> try trivial
  (refine rsl ?_; try exact .intro)
  simp_all [TJob.eq_iff]
 have eRes := h; clear h
 refine ck e94 (c94 x.New y.New (by omega) (by omega)) rfl ?_
 refine evl ?_
 constructor <;> intro h
 ·refine Fin.nt results96 [] ?_ ?_ ?_ <;> try trivial
  (refine rsl ?_; try exact .intro)
  simp_all [TJob.eq_iff]
 have eNew := h; clear h
 refine ck e94 (c94 x.Held y.Held (by omega) (by omega)) rfl ?_
 refine evl ?_
 constructor <;> intro h
 ·refine Fin.nt results96 [] ?_ ?_ ?_ <;> try trivial
  (refine rsl ?_; try exact .intro)
  simp_all [TJob.eq_iff]
 have eHeld := h; clear h
 refine ck e94 (c94 x.Olds y.Olds (by omega) (by omega)) rfl ?_
 refine evl ?_
 constructor <;> intro h
 ·refine Fin.nt results96 [] ?_ ?_ ?_ <;> try trivial
  (refine rsl ?_; try exact .intro)
  simp_all [TJob.eq_iff]
 have eOlds := h; clear h
 refine Fin.nt results96 [] ?_ ?_ ?_ <;> try trivial
 (refine rsl ?_; try exact .intro)
 simp_all [TJob.eq_iff]
theorem c34 (l l' : List TJob) (h0 : sizTJobS l <= 1048576) (h0' : sizTJobS l' <= 1048576) : Ctr prog 34 [.one (.dat (.sl 32 (l.map encTJob))), .one (.dat (.sl 32 (l'.map encTJob)))] [] (.one (.dat (.bool (decide (l = l'))))) [] := by
 have hl : l.length <= maxLen := (lokTJobS (by omega)).1
 have hl' : l'.length <= maxLen := (lokTJobS (by omega)).1
 refine Ctr.bd mixed func34 rfl ?_
 refine evl ?_
 constructor <;> intro h
 ·have hne : l.length ≠ l'.length := by simp at h; omega
  refine Fin.nt results34 [] ?_ ?_ ?_ <;> try trivial
  (refine rsl ?_; try exact .intro)
  symm; rw [decide_eq_false_iff_not]
  intro e; exact hne (by rw [e])
 have hlen : l.length = l'.length := by simp at h; omega
 refine LoopK_intro (fun n s => ∃ i : Nat, i <= l.length /\ n = l.length - i /\ l.take i = l'.take i /\ s = mkSt [(5, .one (.dat (.int .i64 i))), (1, .one (.dat (.sl 32 (l'.map encTJob)))), (0, .one (.dat (.sl 32 (l.map encTJob))))] []) l.length _
  (Ent.wk []) ⟨0, by omega, by omega, rfl, rfl⟩ ?_
 rintro n s ⟨i, hi, rfl, ht, rfl⟩ K hK
 rcases Nat.lt_or_ge i l.length with hlt | hge
 ·have hdi : decide ((i : Int) < l.length) = true := by simpa using hlt
  have hlt' : i < l'.length := by omega
  simp (maxSteps := 2000000) only [go_sem, seval, hdi, wrap_succ hlt hl, getD_map hlt, getD_map hlt', encTJob]
  refine ⟨⟨by omega, by omega⟩, hlt, ⟨by omega, by omega⟩, hlt', ?_⟩
  first
   | refine CCallK_intro e96 (fun _ => ⟨trivial, c96 l[i] l'[i] (by have := sum_get sizTJob hlt; unfold sizTJobS at h0; omega) (by have := sum_get sizTJob hlt'; unfold sizTJobS at h0'; omega)⟩) rfl rfl ?_
   | refine Or.inl (CCallK_intro e96 (fun _ => ⟨trivial, c96 l[i] l'[i] (by have := sum_get sizTJob hlt; unfold sizTJobS at h0; omega) (by have := sum_get sizTJob hlt'; unfold sizTJobS at h0'; omega)⟩) rfl rfl ?_)
  refine sv0 ?_
  constructor <;> intro h
  ·apply hK
   refine evl ?_
   refine Fin.nt results34 [] ?_ ?_ ?_ <;> try trivial
   (refine rsl ?_; try exact .intro)
   symm; rw [decide_eq_false_iff_not]
   rintro rfl; simp at h
  ·apply hK
   have he : l[i] = l'[i] := by simpa using h
   exact ⟨l.length - (i + 1), _, by omega, Ent.wk [], i + 1, by omega, rfl, by rw [List.take_succ_eq_append_getElem hlt, List.take_succ_eq_append_getElem hlt', ht, he], rfl⟩
 ·have hge' : i = l.length := by omega
  subst hge'
  have hdi : decide ((l.length : Int) < l.length) = false := by simp
  refine sv4 ?_
  apply hK
  refine evl ?_
  refine Fin.nt results34 [] ?_ ?_ ?_ <;> try trivial
  (refine rsl ?_; try exact .intro)
  symm; rw [decide_eq_true_iff]
  rw [List.take_of_length_le (Nat.le_refl _), List.take_of_length_le (by omega)] at ht
  exact ht
structure TEv where
 Kind : Int
 Who : Int
 Serial : Int
 Code : Int
 Cmds : List Cmd
 Res : List Res
 deriving DecidableEq
def encTEv (x : TEv) : List D := [.int .i64 x.Kind, .int .i64 x.Who, .int .i64 x.Serial, .int .i64 x.Code, .sl 3 (x.Cmds.map encCmd), .sl 2 (x.Res.map encRes)]
def TEv.wf (x : TEv) : Prop := (Lit.int .i64 x.Kind).wf = true /\ (Lit.int .i64 x.Who).wf = true /\ (Lit.int .i64 x.Serial).wf = true /\ (Lit.int .i64 x.Code).wf = true /\ (∀ y ∈ x.Cmds, y.wf) /\ (∀ y ∈ x.Res, y.wf) /\ True
theorem TEv.eq_iff (x y : TEv) : x = y ↔ x.Kind = y.Kind /\ x.Who = y.Who /\ x.Serial = y.Serial /\ x.Code = y.Code /\ x.Cmds = y.Cmds /\ x.Res = y.Res := by cases x; cases y; simp
def TEv.lok (x : TEv) : Prop := x.Cmds.length <= maxLen /\ x.Res.length <= maxLen /\ True
def sizTEv (x : TEv) : Nat := x.Cmds.length + x.Res.length
def sizTEvS (l : List TEv) : Nat := l.length + (l.map sizTEv).sum
def zeroTEv : TEv := ⟨0, 0, 0, 0, [], []⟩
theorem TEv.lok_of {x : TEv} (h : sizTEv x <= 16777216) : x.lok := by
 have hm : maxLen = 9223372036854775807 := rfl
 unfold sizTEv at h
 exact ⟨by omega, by omega, trivial⟩
theorem lokTEvS {l : List TEv} (h : sizTEvS l <= 16777216) : l.length <= maxLen /\ ∀ y ∈ l, y.lok := by
 have hm : maxLen = 9223372036854775807 := rfl
 unfold sizTEvS at h
 exact ⟨by omega, fun y hy => TEv.lok_of (by have := sum_mem sizTEv hy; omega)⟩
theorem c97 (x y : TEv) (hx : sizTEv x <= 1048576) (hy : sizTEv y <= 1048576) : Ctr prog 97 [.agg ((encTEv x).map .dat), .agg ((encTEv y).map .dat)] [] (.one (.dat (.bool (decide (x = y))))) [] := by
 simp only [encTEv, List.map_cons, List.map_nil]
 unfold sizTEv at hx hy
 have hm : maxLen = 9223372036854775807 := rfl
 refine Ctr.bd mixed func97 rfl ?_
 refine evl ?_
 constructor <;> intro h
 ·refine Fin.nt results97 [] ?_ ?_ ?_ <;> try trivial
  (refine rsl ?_; try exact .intro)
  simp_all [TEv.eq_iff]
 have eKind := h; clear h
 constructor <;> intro h
 ·refine Fin.nt results97 [] ?_ ?_ ?_ <;> try trivial
  (refine rsl ?_; try exact .intro)
  simp_all [TEv.eq_iff]
 have eWho := h; clear h
 constructor <;> intro h
 ·refine Fin.nt results97 [] ?_ ?_ ?_ <;> try trivial
  (refine rsl ?_; try exact .intro)
  simp_all [TEv.eq_iff]
 have eSerial := h; clear h
 constructor <;> intro h
 ·refine Fin.nt results97 [] ?_ ?_ ?_ <;> try trivial
  (refine rsl ?_; try exact .intro)
  simp_all [TEv.eq_iff]
 have eCode := h; clear h
 refine ck e190 (c190 x.Cmds y.Cmds (by omega) (by omega)) rfl ?_
 refine evl ?_
 constructor <;> intro h
 ·refine Fin.nt results97 [] ?_ ?_ ?_ <;> try trivial
  (refine rsl ?_; try exact .intro)
  simp_all [TEv.eq_iff]
 have eCmds := h; clear h
 refine ck e189 (c189 x.Res y.Res (by omega) (by omega)) rfl ?_
 refine evl ?_
 constructor <;> intro h
 ·refine Fin.nt results97 [] ?_ ?_ ?_ <;> try trivial
  (refine rsl ?_; try exact .intro)
  simp_all [TEv.eq_iff]
 have eRes := h; clear h
 refine Fin.nt results97 [] ?_ ?_ ?_ <;> try trivial
 (refine rsl ?_; try exact .intro)
 simp_all [TEv.eq_iff]
theorem c35 (l l' : List TEv) (h0 : sizTEvS l <= 1048576) (h0' : sizTEvS l' <= 1048576) : Ctr prog 35 [.one (.dat (.sl 6 (l.map encTEv))), .one (.dat (.sl 6 (l'.map encTEv)))] [] (.one (.dat (.bool (decide (l = l'))))) [] := by
 have hl : l.length <= maxLen := (lokTEvS (by omega)).1
 have hl' : l'.length <= maxLen := (lokTEvS (by omega)).1
 refine Ctr.bd mixed func35 rfl ?_
 refine evl ?_
 constructor <;> intro h
 ·have hne : l.length ≠ l'.length := by simp at h; omega
  refine Fin.nt results35 [] ?_ ?_ ?_ <;> try trivial
  (refine rsl ?_; try exact .intro)
  symm; rw [decide_eq_false_iff_not]
  intro e; exact hne (by rw [e])
 have hlen : l.length = l'.length := by simp at h; omega
 refine LoopK_intro (fun n s => ∃ i : Nat, i <= l.length /\ n = l.length - i /\ l.take i = l'.take i /\ s = mkSt [(5, .one (.dat (.int .i64 i))), (1, .one (.dat (.sl 6 (l'.map encTEv)))), (0, .one (.dat (.sl 6 (l.map encTEv))))] []) l.length _
  (Ent.wk []) ⟨0, by omega, by omega, rfl, rfl⟩ ?_
 rintro n s ⟨i, hi, rfl, ht, rfl⟩ K hK
 rcases Nat.lt_or_ge i l.length with hlt | hge
 ·have hdi : decide ((i : Int) < l.length) = true := by simpa using hlt
  have hlt' : i < l'.length := by omega
  simp (maxSteps := 2000000) only [go_sem, seval, hdi, wrap_succ hlt hl, getD_map hlt, getD_map hlt', encTEv]
  refine ⟨⟨by omega, by omega⟩, hlt, ⟨by omega, by omega⟩, hlt', ?_⟩
  first
   | refine CCallK_intro e97 (fun _ => ⟨trivial, c97 l[i] l'[i] (by have := sum_get sizTEv hlt; unfold sizTEvS at h0; omega) (by have := sum_get sizTEv hlt'; unfold sizTEvS at h0'; omega)⟩) rfl rfl ?_
   | refine Or.inl (CCallK_intro e97 (fun _ => ⟨trivial, c97 l[i] l'[i] (by have := sum_get sizTEv hlt; unfold sizTEvS at h0; omega) (by have := sum_get sizTEv hlt'; unfold sizTEvS at h0'; omega)⟩) rfl rfl ?_)
  refine sv0 ?_
  constructor <;> intro h
  ·apply hK
   refine evl ?_
   refine Fin.nt results35 [] ?_ ?_ ?_ <;> try trivial
   (refine rsl ?_; try exact .intro)
   symm; rw [decide_eq_false_iff_not]
   rintro rfl; simp at h
  ·apply hK
   have he : l[i] = l'[i] := by simpa using h
   exact ⟨l.length - (i + 1), _, by omega, Ent.wk [], i + 1, by omega, rfl, by rw [List.take_succ_eq_append_getElem hlt, List.take_succ_eq_append_getElem hlt', ht, he], rfl⟩
 ·have hge' : i = l.length := by omega
  subst hge'
  have hdi : decide ((l.length : Int) < l.length) = false := by simp
  refine sv4 ?_
  apply hK
  refine evl ?_
  refine Fin.nt results35 [] ?_ ?_ ?_ <;> try trivial
  (refine rsl ?_; try exact .intro)
  symm; rw [decide_eq_true_iff]
  rw [List.take_of_length_le (Nat.le_refl _), List.take_of_length_le (by omega)] at ht
  exact ht
structure Table where
 Base : Base
 Bkts : List Bkt
 Jobs : List TJob
 Todo : List TQueue
 Log : List TEv
 Serial : Int
 deriving DecidableEq
def encTable (x : Table) : List D := [.sl 1 (x.Base.Mem.Heap.Bytes.map encI), .sl 1 (x.Base.Mem.Heap.Class.map encI), .sl 1 (x.Base.Mem.Lists.Global.map encSList), .sl 1 (x.Base.Mem.Lists.Own.map encSList), .int .i64 x.Base.Clock.Epoch, .sl 4 (x.Base.Clock.Pins.map encPin), .sl 1 (x.Base.Limbo.map encLList), .sl 1 (x.Base.Haz.map encI), .sl 3 (x.Bkts.map encBkt), .sl 32 (x.Jobs.map encTJob), .sl 1 (x.Todo.map encTQueue), .sl 6 (x.Log.map encTEv), .int .i64 x.Serial]
def Table.wf (x : Table) : Prop := x.Base.wf /\ (∀ y ∈ x.Bkts, y.wf) /\ (∀ y ∈ x.Jobs, y.wf) /\ (∀ y ∈ x.Todo, y.wf) /\ (∀ y ∈ x.Log, y.wf) /\ (Lit.int .i64 x.Serial).wf = true /\ True
theorem Table.eq_iff (x y : Table) : x = y ↔ x.Base = y.Base /\ x.Bkts = y.Bkts /\ x.Jobs = y.Jobs /\ x.Todo = y.Todo /\ x.Log = y.Log /\ x.Serial = y.Serial := by cases x; cases y; simp
def Table.lok (x : Table) : Prop := x.Base.lok /\ x.Bkts.length <= maxLen /\ x.Jobs.length <= maxLen /\ (∀ y ∈ x.Jobs, y.lok) /\ x.Todo.length <= maxLen /\ (∀ y ∈ x.Todo, y.lok) /\ x.Log.length <= maxLen /\ (∀ y ∈ x.Log, y.lok) /\ True
def sizTable (x : Table) : Nat := sizBase x.Base + x.Bkts.length + sizTJobS x.Jobs + sizTQueueS x.Todo + sizTEvS x.Log
def sizTableS (l : List Table) : Nat := l.length + (l.map sizTable).sum
def zeroTable : Table := ⟨zeroBase, [], [], [], [], 0⟩
theorem c10 (x y : Table) (hx : sizTable x <= 1048576) (hy : sizTable y <= 1048576) : Ctr prog 10 [.agg ((encTable x).map .dat), .agg ((encTable y).map .dat)] [] (.one (.dat (.bool (decide (x = y))))) [] := by
 simp only [encTable, List.map_cons, List.map_nil]
 unfold sizTable at hx hy
 have hm : maxLen = 9223372036854775807 := rfl
 refine Ctr.bd mixed func10 rfl ?_
 refine evl ?_
 refine ck e32 (c32 x.Base y.Base (by omega) (by omega)) rfl ?_
 refine evl ?_
 constructor <;> intro h
 ·refine Fin.nt results10 [] ?_ ?_ ?_ <;> try trivial
  (refine rsl ?_; try exact .intro)
  simp_all [Table.eq_iff]
 have eBase := h; clear h
 refine ck e33 (c33 x.Bkts y.Bkts (by omega) (by omega)) rfl ?_
 refine evl ?_
 constructor <;> intro h
 ·refine Fin.nt results10 [] ?_ ?_ ?_ <;> try trivial
  (refine rsl ?_; try exact .intro)
  simp_all [Table.eq_iff]
 have eBkts := h; clear h
 refine ck e34 (c34 x.Jobs y.Jobs (by omega) (by omega)) rfl ?_
 refine evl ?_
 constructor <;> intro h
 ·refine Fin.nt results10 [] ?_ ?_ ?_ <;> try trivial
  (refine rsl ?_; try exact .intro)
  simp_all [Table.eq_iff]
 have eJobs := h; clear h
 refine ck e11 (c11 x.Todo y.Todo (by omega) (by omega)) rfl ?_
 refine evl ?_
 constructor <;> intro h
 ·refine Fin.nt results10 [] ?_ ?_ ?_ <;> try trivial
  (refine rsl ?_; try exact .intro)
  simp_all [Table.eq_iff]
 have eTodo := h; clear h
 refine ck e35 (c35 x.Log y.Log (by omega) (by omega)) rfl ?_
 refine evl ?_
 constructor <;> intro h
 ·refine Fin.nt results10 [] ?_ ?_ ?_ <;> try trivial
  (refine rsl ?_; try exact .intro)
  simp_all [Table.eq_iff]
 have eLog := h; clear h
 constructor <;> intro h
 ·refine Fin.nt results10 [] ?_ ?_ ?_ <;> try trivial
  (refine rsl ?_; try exact .intro)
  simp_all [Table.eq_iff]
 have eSerial := h; clear h
 refine Fin.nt results10 [] ?_ ?_ ?_ <;> try trivial
 (refine rsl ?_; try exact .intro)
 simp_all [Table.eq_iff]
end Go.Proofs.YtkmmgklnoagedaaGreat.Mod
