/- Contracts: Fam. -/
import Derived.Test.YtomcobpfejdnoaaRows
import Derived.Test.YtomcobpfejdnoaaTy
import Derived.Test.YtomcobpfejdnoaaAbsTac
import Derived.Test.YtomcobpfejdnoaaAbsData
import Derived.Test.YtomcobpfejdnoaaMBase
import Derived.WalkKit
import Derived.ProofKit
import Derived.OpenShut
namespace Go.Proofs.Ytomcobpfejdnoaa.Mod
open Go.Abs Go.Proofs.Ytomcobpfejdnoaa.Ty Go.ChangeShapes Go.WideShapes Go.ChangeAt Go.RowKit
set_option linter.unusedSimpArgs false
set_option linter.unusedVariables false
set_option maxHeartbeats 8000000
set_option maxRecDepth 100000
structure KV where
  Key : Int
  Val : Int
  deriving DecidableEq
def encKV (x : KV) : List D := [.int .i64 x.Key, .int .i64 x.Val]
def KV.wf (x : KV) : Prop := (Lit.int .i64 x.Key).wf = true ∧ (Lit.int .i64 x.Val).wf = true ∧ True
theorem KV.eq_iff (x y : KV) : x = y ↔ x.Key = y.Key ∧ x.Val = y.Val := by cases x; cases y; simp
def markKV (k : Int) : KV := ⟨k, k + 1⟩
def markKVs (k : Int) (n : Nat) : List (List D) := (List.range n).map fun i => encKV (markKV (k + 2 * (i : Nat)))
theorem markKVs_length (k : Int) (n : Nat) : (markKVs k n).length = n := by simp [markKVs]
structure Seen where
  Bkt : Int
  Ver : Int
  deriving DecidableEq
def encSeen (x : Seen) : List D := [.int .i64 x.Bkt, .int .i64 x.Ver]
def Seen.wf (x : Seen) : Prop := (Lit.int .i64 x.Bkt).wf = true ∧ (Lit.int .i64 x.Ver).wf = true ∧ True
theorem Seen.eq_iff (x y : Seen) : x = y ↔ x.Bkt = y.Bkt ∧ x.Ver = y.Ver := by cases x; cases y; simp
def markSeen (k : Int) : Seen := ⟨k, k + 1⟩
def markSeens (k : Int) (n : Nat) : List (List D) := (List.range n).map fun i => encSeen (markSeen (k + 2 * (i : Nat)))
theorem markSeens_length (k : Int) (n : Nat) : (markSeens k n).length = n := by simp [markSeens]
structure Write where
  Key : Int
  Del : Bool
  Val : Int
  deriving DecidableEq
def encWrite (x : Write) : List D := [.int .i64 x.Key, .bool x.Del, .int .i64 x.Val]
def Write.wf (x : Write) : Prop := (Lit.int .i64 x.Key).wf = true ∧ (Lit.int .i64 x.Val).wf = true ∧ True
theorem Write.eq_iff (x y : Write) : x = y ↔ x.Key = y.Key ∧ x.Del = y.Del ∧ x.Val = y.Val := by cases x; cases y; simp
def markWrite (k : Int) : Write := ⟨k, (k + 1).tmod 3 == 0, k + 1 + 1⟩
def markWrites (k : Int) (n : Nat) : List (List D) := (List.range n).map fun i => encWrite (markWrite (k + 3 * (i : Nat)))
theorem markWrites_length (k : Int) (n : Nat) : (markWrites k n).length = n := by simp [markWrites]
structure Cmd where
  Kind : Int
  Key : Int
  Val : Int
  deriving DecidableEq
def encCmd (x : Cmd) : List D := [.int .i64 x.Kind, .int .i64 x.Key, .int .i64 x.Val]
def Cmd.wf (x : Cmd) : Prop := (Lit.int .i64 x.Kind).wf = true ∧ (Lit.int .i64 x.Key).wf = true ∧ (Lit.int .i64 x.Val).wf = true ∧ True
theorem Cmd.eq_iff (x y : Cmd) : x = y ↔ x.Kind = y.Kind ∧ x.Key = y.Key ∧ x.Val = y.Val := by cases x; cases y; simp
def markCmd (k : Int) : Cmd := ⟨k, k + 1, k + 1 + 1⟩
def markCmds (k : Int) (n : Nat) : List (List D) := (List.range n).map fun i => encCmd (markCmd (k + 3 * (i : Nat)))
theorem markCmds_length (k : Int) (n : Nat) : (markCmds k n).length = n := by simp [markCmds]
structure Bkt where
  Head : Int
  Ver : Int
  Lock : Int
  deriving DecidableEq
def encBkt (x : Bkt) : List D := [.int .i64 x.Head, .int .i64 x.Ver, .int .i64 x.Lock]
def Bkt.wf (x : Bkt) : Prop := (Lit.int .i64 x.Head).wf = true ∧ (Lit.int .i64 x.Ver).wf = true ∧ (Lit.int .i64 x.Lock).wf = true ∧ True
theorem Bkt.eq_iff (x y : Bkt) : x = y ↔ x.Head = y.Head ∧ x.Ver = y.Ver ∧ x.Lock = y.Lock := by cases x; cases y; simp
def markBkt (k : Int) : Bkt := ⟨k, k + 1, k + 1 + 1⟩
def markBkts (k : Int) (n : Nat) : List (List D) := (List.range n).map fun i => encBkt (markBkt (k + 3 * (i : Nat)))
theorem markBkts_length (k : Int) (n : Nat) : (markBkts k n).length = n := by simp [markBkts]
structure Node where
  Key : Int
  Val : Int
  Next : Int
  deriving DecidableEq
def encNode (x : Node) : List D := [.int .i64 x.Key, .int .i64 x.Val, .int .i64 x.Next]
def Node.wf (x : Node) : Prop := (Lit.int .i64 x.Key).wf = true ∧ (Lit.int .i64 x.Val).wf = true ∧ (Lit.int .i64 x.Next).wf = true ∧ True
theorem Node.eq_iff (x y : Node) : x = y ↔ x.Key = y.Key ∧ x.Val = y.Val ∧ x.Next = y.Next := by cases x; cases y; simp
theorem c9 (x y : Node) : Ctr Try.prog 9 [.agg ((encNode x).map .dat), .agg ((encNode y).map .dat)] [] (.one (.dat (.bool (decide (x = y))))) [] := by
  simp only [encNode, List.map_cons, List.map_nil]
  refine Ctr.bd mixed Try.func9 rfl ?_
  refine evl ?_
  repeat' first
    | ((with_reducible show Abs.Fin _ _ _ _ _ _); refine Fin.nt Try.results9 [] ?_ ?_ ?_ <;> try trivial)
    | with_reducible intro h
    | ((with_reducible show _ ∧ _); apply And.intro)
  all_goals try (first | exact True.intro | (refine rsl ?_; try exact True.intro))
  all_goals simp_all [Node.eq_iff]
def markNode (k : Int) : Node := ⟨k, k + 1, k + 1 + 1⟩
def markNodes (k : Int) (n : Nat) : List (List D) := (List.range n).map fun i => encNode (markNode (k + 3 * (i : Nat)))
theorem markNodes_length (k : Int) (n : Nat) : (markNodes k n).length = n := by simp [markNodes]
structure LRow where
  Handle : Int
  Epoch : Int
  deriving DecidableEq
def encLRow (x : LRow) : List D := [.int .i64 x.Handle, .int .i64 x.Epoch]
def LRow.wf (x : LRow) : Prop := (Lit.int .i64 x.Handle).wf = true ∧ (Lit.int .i64 x.Epoch).wf = true ∧ True
theorem LRow.eq_iff (x y : LRow) : x = y ↔ x.Handle = y.Handle ∧ x.Epoch = y.Epoch := by cases x; cases y; simp
def markLRow (k : Int) : LRow := ⟨k, k + 1⟩
def markLRows (k : Int) (n : Nat) : List (List D) := (List.range n).map fun i => encLRow (markLRow (k + 2 * (i : Nat)))
theorem markLRows_length (k : Int) (n : Nat) : (markLRows k n).length = n := by simp [markLRows]
structure Op where
  Kind : Int
  Cell : Int
  Size : Int
  Val : Int
  deriving DecidableEq
def encOp (x : Op) : List D := [.int .i64 x.Kind, .int .i64 x.Cell, .int .i64 x.Size, .int .i64 x.Val]
def Op.wf (x : Op) : Prop := (Lit.int .i64 x.Kind).wf = true ∧ (Lit.int .i64 x.Cell).wf = true ∧ (Lit.int .i64 x.Size).wf = true ∧ (Lit.int .i64 x.Val).wf = true ∧ True
theorem Op.eq_iff (x y : Op) : x = y ↔ x.Kind = y.Kind ∧ x.Cell = y.Cell ∧ x.Size = y.Size ∧ x.Val = y.Val := by cases x; cases y; simp
def markOp (k : Int) : Op := ⟨k, k + 1, k + 1 + 1, k + 1 + 1 + 1⟩
def markOps (k : Int) (n : Nat) : List (List D) := (List.range n).map fun i => encOp (markOp (k + 4 * (i : Nat)))
theorem markOps_length (k : Int) (n : Nat) : (markOps k n).length = n := by simp [markOps]
structure Span where
  From : Int
  To : Int
  deriving DecidableEq
def encSpan (x : Span) : List D := [.int .i64 x.From, .int .i64 x.To]
def Span.wf (x : Span) : Prop := (Lit.int .i64 x.From).wf = true ∧ (Lit.int .i64 x.To).wf = true ∧ True
theorem Span.eq_iff (x y : Span) : x = y ↔ x.From = y.From ∧ x.To = y.To := by cases x; cases y; simp
def markSpan (k : Int) : Span := ⟨k, k + 1⟩
def markSpans (k : Int) (n : Nat) : List (List D) := (List.range n).map fun i => encSpan (markSpan (k + 2 * (i : Nat)))
theorem markSpans_length (k : Int) (n : Nat) : (markSpans k n).length = n := by simp [markSpans]
structure Pin where
  On : Bool
  Epoch : Int
  Marked : Bool
  Seen : Int
  deriving DecidableEq
def encPin (x : Pin) : List D := [.bool x.On, .int .i64 x.Epoch, .bool x.Marked, .int .i64 x.Seen]
def Pin.wf (x : Pin) : Prop := (Lit.int .i64 x.Epoch).wf = true ∧ (Lit.int .i64 x.Seen).wf = true ∧ True
theorem Pin.eq_iff (x y : Pin) : x = y ↔ x.On = y.On ∧ x.Epoch = y.Epoch ∧ x.Marked = y.Marked ∧ x.Seen = y.Seen := by cases x; cases y; simp
def markPin (k : Int) : Pin := ⟨(k).tmod 3 == 0, k + 1, (k + 1 + 1).tmod 3 == 0, k + 1 + 1 + 1⟩
def markPins (k : Int) (n : Nat) : List (List D) := (List.range n).map fun i => encPin (markPin (k + 4 * (i : Nat)))
theorem markPins_length (k : Int) (n : Nat) : (markPins k n).length = n := by simp [markPins]
structure Res where
  Is : Bool
  Val : Int
  deriving DecidableEq
def encRes (x : Res) : List D := [.bool x.Is, .int .i64 x.Val]
def Res.wf (x : Res) : Prop := (Lit.int .i64 x.Val).wf = true ∧ True
theorem Res.eq_iff (x y : Res) : x = y ↔ x.Is = y.Is ∧ x.Val = y.Val := by cases x; cases y; simp
def markRes (k : Int) : Res := ⟨(k).tmod 3 == 0, k + 1⟩
def markRess (k : Int) (n : Nat) : List (List D) := (List.range n).map fun i => encRes (markRes (k + 2 * (i : Nat)))
theorem markRess_length (k : Int) (n : Nat) : (markRess k n).length = n := by simp [markRess]
structure Ev where
  Kind : Int
  Who : Int
  Serial : Int
  Cell : Int
  Handle : Int
  Val : Int
  Code : Int
  deriving DecidableEq
def encEv (x : Ev) : List D := [.int .i64 x.Kind, .int .i64 x.Who, .int .i64 x.Serial, .int .i64 x.Cell, .int .i64 x.Handle, .int .i64 x.Val, .int .i64 x.Code]
def Ev.wf (x : Ev) : Prop := (Lit.int .i64 x.Kind).wf = true ∧ (Lit.int .i64 x.Who).wf = true ∧ (Lit.int .i64 x.Serial).wf = true ∧ (Lit.int .i64 x.Cell).wf = true ∧ (Lit.int .i64 x.Handle).wf = true ∧ (Lit.int .i64 x.Val).wf = true ∧ (Lit.int .i64 x.Code).wf = true ∧ True
theorem Ev.eq_iff (x y : Ev) : x = y ↔ x.Kind = y.Kind ∧ x.Who = y.Who ∧ x.Serial = y.Serial ∧ x.Cell = y.Cell ∧ x.Handle = y.Handle ∧ x.Val = y.Val ∧ x.Code = y.Code := by cases x; cases y; simp
def markEv (k : Int) : Ev := ⟨k, k + 1, k + 1 + 1, k + 1 + 1 + 1, k + 1 + 1 + 1 + 1, k + 1 + 1 + 1 + 1 + 1, k + 1 + 1 + 1 + 1 + 1 + 1⟩
def markEvs (k : Int) (n : Nat) : List (List D) := (List.range n).map fun i => encEv (markEv (k + 7 * (i : Nat)))
theorem markEvs_length (k : Int) (n : Nat) : (markEvs k n).length = n := by simp [markEvs]
end Go.Proofs.Ytomcobpfejdnoaa.Mod
