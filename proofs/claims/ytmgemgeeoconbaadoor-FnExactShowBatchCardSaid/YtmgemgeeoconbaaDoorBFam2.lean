/- Contracts: Fam2. -/
import Derived.Test.YtmgemgeeoconbaaDoorRows
import Derived.Test.YtmgemgeeoconbaaDoorBTy
import Derived.Test.YtmgemgeeoconbaaDoorAbsTac
import Derived.Test.YtmgemgeeoconbaaDoorAbsData
import Derived.Test.YtmgemgeeoconbaaDoorBFam
import Derived.WalkKit
import Derived.ProofKit
import Derived.OpenShut
namespace Go.Proofs.YtmgemgeeoconbaaDoor.Mod
open Go.Proofs.Tryd Go.Abs Go.Proofs.YtmgemgeeoconbaaDoor.Ty Go.ChangeShapes Go.WideShapes Go.ChangeAt Go.RowKit
set_option linter.unusedSimpArgs false
set_option linter.unusedVariables false
set_option maxHeartbeats 8000000
set_option maxRecDepth 100000
def encI (x : Int) : List D := [.int .i64 x]
theorem sum_get {α : Type} (f : α -> Nat) : ∀ {l : List α} {i : Nat} (h : i < l.length), f l[i] <= (l.map f).sum
 | x :: l, 0, _ => by simp
 | x :: l, i + 1, h => by
  have := sum_get f (l := l) (i := i) (by simpa using h)
  simp; omega
theorem sum_mem {α : Type} (f : α -> Nat) {l : List α} {x : α} (h : x ∈ l) : f x <= (l.map f).sum := by
 obtain ⟨i, hi, rfl⟩ := List.getElem_of_mem h
 exact sum_get f hi
theorem sum_take_succ {α : Type} (f : α -> Nat) {l : List α} {i : Nat} (h : i < l.length) : ((l.take (i + 1)).map f).sum = ((l.take i).map f).sum + f l[i] := by
 rw [List.take_succ_eq_append_getElem h, List.map_append, List.sum_append]; simp
theorem sum_take_le {α : Type} (f : α -> Nat) (l : List α) (i : Nat) : ((l.take i).map f).sum <= (l.map f).sum := by
 conv => rhs; rw [<- List.take_append_drop i l, List.map_append, List.sum_append]
 omega
theorem szL_raw {left : Int} {n : Nat} : decide (szL left n < 0) = decide (left - n < 0) := by
 unfold szL; split <;> simp <;> omega
theorem szL_at {left : Int} {a b : Nat} (h0 : 0 <= left) (h : decide (szL left a < 0) = false) : szL (szL left a) b = szL left (a + b) := by
 unfold szL at h ⊢
 split at h
 ·simp at h
 ·rename_i hn
  rw [if_neg hn]
  by_cases h2 : left - (a + b : Nat) < 0
  ·rw [if_pos h2, if_pos (by omega)]
  ·rw [if_neg h2, if_neg (by omega)]; omega
theorem szL_bad {left : Int} {a t : Nat} (h : decide (szL left a < 0) = true) (ht : a <= t) : (-1 : Int) = szL left t := by
 rw [szL_raw] at h
 simp at h
 unfold szL
 rw [if_pos (by omega)]
def Cmd.lok (x : Cmd) : Prop := True
def zeroCmd : Cmd := ⟨0, 0, 0⟩
theorem decCmd (n : Nat) (ds : List D) (h : WT prog n 23 ds) : ∃ x : Cmd, ds = encCmd x /\ x.wf /\ x.lok := by
 cases n with
 | zero => exact h.elim
 | succ n =>
  unfold WT at h
  rw [underlying23] at h
  simp only [List.toList_toArray, List.map_cons, List.map_nil, WTs] at h
  obtain ⟨_, _, rfl, h0, ⟨_, _, rfl, h1, ⟨_, _, rfl, h2, rfl⟩⟩⟩ := h
  obtain ⟨x0, rfl, w0⟩ := decInt underlying3 h0
  obtain ⟨x1, rfl, w1⟩ := decInt underlying3 h1
  obtain ⟨x2, rfl, w2⟩ := decInt underlying3 h2
  exact ⟨⟨x0, x1, x2⟩, rfl, ⟨w0, w1, w2, trivial⟩, trivial⟩
structure Batch where
 Collect : Bool
 Cmds : List Cmd
 deriving DecidableEq
def encBatch (x : Batch) : List D := [.bool x.Collect, .sl 3 (x.Cmds.map encCmd)]
def Batch.wf (x : Batch) : Prop := (∀ y ∈ x.Cmds, y.wf) /\ True
theorem Batch.eq_iff (x y : Batch) : x = y ↔ x.Collect = y.Collect /\ x.Cmds = y.Cmds := by cases x; cases y; simp
def Batch.lok (x : Batch) : Prop := x.Cmds.length <= maxLen /\ True
def sizBatch (x : Batch) : Nat := x.Cmds.length
def sizBatchS (l : List Batch) : Nat := l.length + (l.map sizBatch).sum
def zeroBatch : Batch := ⟨false, []⟩
theorem decBatch (n : Nat) (ds : List D) (h : WT prog n 36 ds) : ∃ x : Batch, ds = encBatch x /\ x.wf /\ x.lok := by
 cases n with
 | zero => exact h.elim
 | succ n =>
  unfold WT at h
  rw [underlying36] at h
  simp only [List.toList_toArray, List.map_cons, List.map_nil, WTs] at h
  obtain ⟨_, _, rfl, h0, ⟨_, _, rfl, h1, rfl⟩⟩ := h
  obtain ⟨x0, rfl⟩ := decBool underlying4 h0
  obtain ⟨x1, rfl, c1, w1⟩ := decSl (enc := encCmd) (q := fun x => x.wf /\ x.lok) underlying34 tc_23 decCmd h1
  exact ⟨⟨x0, x1⟩, rfl, ⟨fun y hy => (w1 y hy).1, trivial⟩, ⟨c1, trivial⟩⟩
theorem c15 (x : Batch) (hk : x.lok) (left : Int) (h0 : 0 <= left) (h1 : left <= 1048576) : Ctr prog 15 [.agg ((encBatch x).map .dat), .one (.dat (.int .i64 left))] [] (.one (.dat (.int .i64 (szL left (sizBatch x))))) [] := by
 simp only [encBatch, List.map_cons, List.map_nil]
 unfold sizBatch
 refine Ctr.bd mixed func15 rfl ?_
 refine evl ?_
 obtain ⟨kCmds, _⟩ := hk
 refine CallK_pure e39 (c39 (x.Cmds.map encCmd) left h0 h1 (by simpa using kCmds)) rfl ?_
 refine evl ?_
 constructor <;> intro h
 ·refine Fin.nt results15 [] ?_ ?_ ?_ <;> try trivial
  (refine rsl ?_; try exact .intro)
  try simp only [List.length_map] at h
  exact szL_bad (h) (by omega)
 try simp only [List.length_map] at h
 have a0 : decide (szL left (x.Cmds.length) < 0) = false := h
 refine Fin.nt results15 [] ?_ ?_ ?_ <;> try trivial
 all_goals try ((refine rsl ?_; try exact .intro))
 all_goals try simp only [List.length_map]
theorem c17 (x : Batch) (h : sizBatch x <= 1048576) : Ctr prog 17 [.agg ((encBatch x).map .dat)] [] (.agg [.dat (.bool x.Collect), .own 0]) [.vec 3 true (x.Cmds.map encCmd)] := by
 simp only [encBatch, List.map_cons, List.map_nil]
 unfold sizBatch at h
 refine Ctr.bd mixed func17 rfl ?_
 refine evl ?_
 refine CallK_pure e41 (c41 x.Cmds (by omega)) rfl ?_
 refine evl ?_
 first | ((refine Fin.nt results17 [3] ?_ ?_ ?_ <;> try trivial) <;> (first | rfl | exact entd); done) | ((refine Fin.nt results17 [2] ?_ ?_ ?_ <;> try trivial) <;> (first | rfl | exact entd); done) | ((refine Fin.nt results17 [1] ?_ ?_ ?_ <;> try trivial) <;> (first | rfl | exact entd); done) | ((refine Fin.nt results17 [0] ?_ ?_ ?_ <;> try trivial) <;> (first | rfl | exact entd); done) | ((refine Fin.nt results17 [4] ?_ ?_ ?_ <;> try trivial) <;> (first | rfl | exact entd); done) | ((refine Fin.nt results17 [5] ?_ ?_ ?_ <;> try trivial) <;> (first | rfl | exact entd); done)
theorem c19 (x y : Batch) (hx : sizBatch x <= 1048576) (hy : sizBatch y <= 1048576) : Ctr prog 19 [.agg ((encBatch x).map .dat), .agg ((encBatch y).map .dat)] [] (.one (.dat (.bool (decide (x = y))))) [] := by
 simp only [encBatch, List.map_cons, List.map_nil]
 unfold sizBatch at hx hy
 have hm : maxLen = 9223372036854775807 := rfl
 refine Ctr.bd mixed func19 rfl ?_
 refine evl ?_
 constructor <;> intro h
 ·refine Fin.nt results19 [] ?_ ?_ ?_ <;> try trivial
  (refine rsl ?_; try exact .intro)
  simp_all [Batch.eq_iff]
 have eCollect := h; clear h
 refine ck e44 (c44 x.Cmds y.Cmds (by omega) (by omega)) rfl ?_
 refine evl ?_
 constructor <;> intro h
 ·refine Fin.nt results19 [] ?_ ?_ ?_ <;> try trivial
  (refine rsl ?_; try exact .intro)
  simp_all [Batch.eq_iff]
 have eCmds := h; clear h
 refine Fin.nt results19 [] ?_ ?_ ?_ <;> try trivial
 (refine rsl ?_; try exact .intro)
 simp_all [Batch.eq_iff]
end Go.Proofs.YtmgemgeeoconbaaDoor.Mod
