/- Contracts: Fam. -/
import Derived.Test.YtppbonemkipgeaaRows
import Derived.Test.YtppbonemkipgeaaCTy
import Derived.Test.YtppbonemkipgeaaAbsTac
import Derived.Test.YtppbonemkipgeaaAbsData
import Derived.Test.YtppbonemkipgeaaCBase
import Derived.WalkKit
import Derived.ProofKit
import Derived.OpenShut
namespace Go.Proofs.Ytppbonemkipgeaa.Mod
open Go.Proofs.Try Go.Abs Go.Proofs.Ytppbonemkipgeaa.Ty Go.ChangeShapes Go.WideShapes Go.ChangeAt Go.RowKit
set_option linter.unusedSimpArgs false
set_option linter.unusedVariables false
set_option maxHeartbeats 8000000
set_option maxRecDepth 100000
structure Seen where
 Bkt : Int
 Ver : Int
 deriving DecidableEq
def encSeen (x : Seen) : List D := [.int .i64 x.Bkt, .int .i64 x.Ver]
def Seen.wf (x : Seen) : Prop := (Lit.int .i64 x.Bkt).wf = true /\ (Lit.int .i64 x.Ver).wf = true /\ True
theorem Seen.eq_iff (x y : Seen) : x = y ↔ x.Bkt = y.Bkt /\ x.Ver = y.Ver := by cases x; cases y; simp
structure Write where
 Key : Int
 Del : Bool
 Val : Int
 deriving DecidableEq
def encWrite (x : Write) : List D := [.int .i64 x.Key, .bool x.Del, .int .i64 x.Val]
def Write.wf (x : Write) : Prop := (Lit.int .i64 x.Key).wf = true /\ (Lit.int .i64 x.Val).wf = true /\ True
theorem Write.eq_iff (x y : Write) : x = y ↔ x.Key = y.Key /\ x.Del = y.Del /\ x.Val = y.Val := by cases x; cases y; simp
theorem c41 (x : Write) : Ctr prog 41 [.agg ((encWrite x).map .dat)] [] (.agg ((encWrite x).map .dat)) [] := by
 simp only [encWrite, List.map_cons, List.map_nil]
 refine Ctr.bd mixed func41 rfl ?_
 refine evl ?_
 repeat' first
  | ((with_reducible show Abs.Fin _ _ _ _ _ _); refine Fin.nt results41 [] ?_ ?_ ?_ <;> try trivial)
  | with_reducible intro h
  | ((with_reducible show _ /\ _); apply And.intro)
 all_goals first | rfl | simp
theorem c9 (l : List Write) (hl : l.length <= 1048576) : Ctr prog 9 [.one (.dat (.sl 3 (l.map encWrite)))] [] (.one (.own 0)) [.vec 3 true (l.map encWrite)] := by
 refine Ctr.bd mixed func9 rfl ?_
 refine evl ?_
 refine ⟨by omega, ?_⟩
 refine LoopK_intro (fun n s => ∃ i : Nat, i <= l.length /\ n = l.length - i /\ s = mkSt [(4, .one (.dat (.int .i64 i))), (3, .one (.own 0)), (0, .one (.dat (.sl 3 (l.map encWrite))))]
   [.vec 3 true ((l.take i).map encWrite ++ List.replicate (l.length - i) [.int .i64 0, .bool false, .int .i64 0])]) l.length _
  (Ent.weak (ids := [0]) (by simp) rfl (by simp) ?_ ?_ ?_) ⟨0, by omega, by omega, rfl⟩ ?_
 ·simp [objsLe, St.obj, find, AObj.renF]
 ·simp [envLe, find, AV.renF, AV.renF1, Leaf.renF]
 ·simp [LowAll, AV.Low, AV.Low1, Leaf.Low, AObj.Low]
 rintro n s ⟨i, hi, rfl, rfl⟩ K hK
 refine evl ?_
 constructor <;> intro h
 ·have hlt : i < l.length := by simpa using h
  refine ⟨⟨by omega, by omega⟩, hlt, ?_⟩
  simp only [getD_map hlt, encWrite, List.map_cons, List.map_nil, List.take_succ_cons, List.take_zero]
  refine CallK_pure e41 (c41 l[i]) rfl ?_
  simp (maxSteps := 2000000) only [go_sem, seval, encWrite, D.flat, wrap_succ hlt (le20 hl)]
  refine ⟨by simp; omega, by simp; omega, ?_⟩
  apply hK
  refine ⟨l.length - (i + 1), _, by omega, Ent.weak (ids := [0]) (by simp) rfl (by simp) ?_ ?_ ?_, i + 1, by omega, rfl, rfl⟩
  ·simp only [objsLe, St.obj, find, AObj.renF, if_true, Option.getD_some, List.getD_cons_zero, and_true]
   rw [<- take_set encWrite l _ hlt]
   exact ⟨Nat.zero_lt_one, Or.inr rfl⟩
  ·simp [envLe, find, AV.renF, AV.renF1, Leaf.renF]
  ·simp [LowAll, AV.Low, AV.Low1, Leaf.Low, AObj.Low]
 ·have hge : i = l.length := by simp at h; omega
  subst hge
  apply hK
  refine evl ?_
  refine Fin.nt results9 [0] ?_ ?_ ?_ <;> try trivial
  all_goals simp [objsLe, St.obj, find, AObj.renF]
theorem c7 (rows : List (List D)) (left : Int) (h0 : 0 <= left) (h1 : left <= 1048576) (hl : rows.length <= maxLen) : Ctr prog 7 [.one (.dat (.sl 3 rows)), .one (.dat (.int .i64 left))] [] (.one (.dat (.int .i64 (szL left rows.length)))) [] := by
 have hw := szL_wrap h0 h1 hl
 refine Ctr.bd mixed func7 rfl ?_
 simp (maxSteps := 2000000) only [go_sem, seval, hw]
 repeat' first
  | ((with_reducible show Abs.Fin _ _ _ _ _ _); refine Fin.nt results7 [] ?_ ?_ ?_ <;> try trivial)
  | with_reducible intro h
  | ((with_reducible show _ /\ _); apply And.intro)
 all_goals try ((refine rsl ?_; try exact .intro))
 all_goals simp_all [szL]
 all_goals omega
theorem c44 (x y : Write) : Ctr prog 44 [.agg ((encWrite x).map .dat), .agg ((encWrite y).map .dat)] [] (.one (.dat (.bool (decide (x = y))))) [] := by
 simp only [encWrite, List.map_cons, List.map_nil]
 refine Ctr.bd mixed func44 rfl ?_
 refine evl ?_
 repeat' first
  | ((with_reducible show Abs.Fin _ _ _ _ _ _); refine Fin.nt results44 [] ?_ ?_ ?_ <;> try trivial)
  | with_reducible intro h
  | ((with_reducible show _ /\ _); apply And.intro)
 all_goals try ((refine rsl ?_; try exact .intro))
 all_goals simp_all [Write.eq_iff]
theorem c12 (l l' : List Write) (hl : l.length <= maxLen) (hl' : l'.length <= maxLen) : Ctr prog 12 [.one (.dat (.sl 3 (l.map encWrite))), .one (.dat (.sl 3 (l'.map encWrite)))] [] (.one (.dat (.bool (decide (l = l'))))) [] := by
 refine Ctr.bd mixed func12 rfl ?_
 refine evl ?_
 constructor <;> intro h
 ·have hne : l.length ≠ l'.length := by simp at h; omega
  refine Fin.nt results12 [] ?_ ?_ ?_ <;> try trivial
  (refine rsl ?_; try exact .intro)
  symm; rw [decide_eq_false_iff_not]
  intro e; exact hne (by rw [e])
 have hlen : l.length = l'.length := by simp at h; omega
 refine LoopK_intro (fun n s => ∃ i : Nat, i <= l.length /\ n = l.length - i /\ l.take i = l'.take i /\ s = mkSt [(5, .one (.dat (.int .i64 i))), (1, .one (.dat (.sl 3 (l'.map encWrite)))), (0, .one (.dat (.sl 3 (l.map encWrite))))] []) l.length _
  (Ent.weak (ids := []) (by simp) rfl (by simp) ?_ ?_ ?_) ⟨0, by omega, by omega, rfl, rfl⟩ ?_
 ·simp [objsLe, St.obj, find, AObj.renF]
 ·simp [envLe, find, AV.renF, AV.renF1, Leaf.renF]
 ·simp [LowAll, AV.Low, AV.Low1, Leaf.Low, AObj.Low]
 rintro n s ⟨i, hi, rfl, ht, rfl⟩ K hK
 refine evl ?_
 constructor <;> intro h
 ·have hlt : i < l.length := by simpa using h
  have hlt' : i < l'.length := by omega
  refine ⟨⟨by omega, by omega⟩, hlt, ⟨by omega, by omega⟩, hlt', ?_⟩
  simp only [getD_map hlt, getD_map hlt', encWrite, List.map_cons, List.map_nil, List.take_succ_cons, List.take_zero]
  first
   | refine CCallK_intro e44 (fun _ => ⟨trivial, c44 l[i] l'[i]⟩) rfl rfl ?_
   | refine Or.inl (CCallK_intro e44 (fun _ => ⟨trivial, c44 l[i] l'[i]⟩) rfl rfl ?_)
  simp (maxSteps := 2000000) only [go_sem, seval, wrap_succ hlt hl]
  constructor <;> intro h
  ·apply hK
   refine evl ?_
   refine Fin.nt results12 [] ?_ ?_ ?_ <;> try trivial
   (refine rsl ?_; try exact .intro)
   symm; rw [decide_eq_false_iff_not]
   rintro rfl; simp at h
  ·apply hK
   have he : l[i] = l'[i] := by simpa using h
   refine ⟨l.length - (i + 1), _, by omega, Ent.weak (ids := []) (by simp) rfl (by simp) ?_ ?_ ?_, i + 1, by omega, rfl, ?_, rfl⟩
   ·simp [objsLe, St.obj, find, AObj.renF]
   ·simp [envLe, find, AV.renF, AV.renF1, Leaf.renF]
   ·simp [LowAll, AV.Low, AV.Low1, Leaf.Low, AObj.Low]
   ·rw [List.take_succ_eq_append_getElem hlt, List.take_succ_eq_append_getElem hlt', ht, he]
 ·have hge : i = l.length := by simp at h; omega
  subst hge
  apply hK
  refine evl ?_
  refine Fin.nt results12 [] ?_ ?_ ?_ <;> try trivial
  (refine rsl ?_; try exact .intro)
  symm; rw [decide_eq_true_iff]
  rw [List.take_of_length_le (Nat.le_refl _), List.take_of_length_le (by omega)] at ht
  exact ht
def markWrite (k : Int) : Write := ⟨k, (k + 1).tmod 3 == 0, k + 1 + 1⟩
def markWrites (k : Int) (n : Nat) : List (List D) := (List.range n).map fun i => encWrite (markWrite (k + 3 * (i : Nat)))
theorem markWrites_length (k : Int) (n : Nat) : (markWrites k n).length = n := by simp [markWrites]
theorem c13 (l : List Write) (k : Int) (hk0 : 0 <= k) (hk : k + 3 * l.length <= 4611686018427387904) : Ctr prog 13 [.one (.own 0), .one (.dat (.int .i64 k))] [.vec 3 true (l.map encWrite)] (.one (.dat (.int .i64 (k + 3 * l.length)))) [.vec 3 true (markWrites k l.length)] := by
 refine Ctr.of_body mixed func13 rfl (by kernel_rfl) (Nat.le_of_ble_eq_true rfl) (by simp [AV.Clean, AV.Clean1, Leaf.Clean, D.flat]) (by simp [AObj.Sep]) (by simp) ?_ (by simp [AV.Low, AV.Low1, Leaf.Low]) ?_
 ·intro o ho
  have : o = 0 := by simpa using ho
  subst this
  simp [Objs, Compat, markWrites]
 show wpA _ _ _ (FinQ _ _ _ _ _) _
 unfold markWrites
 refine evl ?_
 refine LoopK_intro (fun n s => ∃ i : Nat, i <= l.length /\ n = l.length - i /\ s = mkSt [(5, .one (.dat (.int .i64 i))), (1, .one (.dat (.int .i64 (k + 3 * (i : Nat))))), (0, .one (.own 0))]
   [.vec 3 true ((List.range i).map (fun i => encWrite (markWrite (k + 3 * (i : Nat)))) ++ (l.drop i).map encWrite)]) l.length _
  (Ent.wk [0]) ⟨0, by omega, by omega, rfl⟩ ?_
 rintro n s ⟨i, hi, rfl, rfl⟩ K hK
 have hlen : ((List.range i).map (fun i => encWrite (markWrite (k + 3 * (i : Nat)))) ++ (l.drop i).map encWrite).length = l.length := by simp; omega
 rcases Nat.lt_or_ge i l.length with hlt | hge
 ·have hA : ((List.range i).map (fun i => encWrite (markWrite (k + 3 * (i : Nat))))).length = i := by simp
  have hd : decide ((i : Int) < l.length) = true := by simpa using hlt
  have hw := wrap_succ hlt (show l.length <= maxLen by unfold maxLen; omega)
  have hw1 : IntKind.i64.wrap (k + 3 * (i : Int) + 1) = k + 3 * (i : Int) + 1 := by rw [IntKind.wrap_i64]; omega
  have hw2 : IntKind.i64.wrap (k + 3 * (i : Int) + 1 + 1) = k + 3 * (i : Int) + 1 + 1 := by rw [IntKind.wrap_i64]; omega
  have hw3 : IntKind.i64.wrap (k + 3 * (i : Int) + 1 + 1 + 1) = k + 3 * (i : Int) + 1 + 1 + 1 := by rw [IntKind.wrap_i64]; omega
  rw [List.drop_eq_getElem_cons hlt, List.map_cons] at hlen ⊢
  generalize hAd : (List.range i).map (fun i => encWrite (markWrite (k + 3 * (i : Nat)))) = A at hA hlen ⊢
  have hl1 : ∀ x, (A ++ x :: (l.drop (i + 1)).map encWrite).length = l.length := fun x => by
   rw [List.length_append, List.length_cons] at hlen ⊢; exact hlen
  simp (maxSteps := 2000000) only [go_sem, seval, hl1, hd, set_mid hA, getD_mid hA, encWrite, hw, hw1, hw2, hw3, D.flat]
  repeat' ((with_reducible show _ /\ _); apply And.intro)
  all_goals first
   | (with_reducible exact hlt)
   | omega
   | (exact (by decide : ((3 : Int) = 0 -> False)))
   | skip
  apply hK
  refine ⟨l.length - (i + 1), _, by omega, Ent.weak (ids := [0]) (by simp) rfl (by simp) ?_ ?_ (by simp [objsLe, envLe, find, St.obj, AObj.renF, AV.renF, AV.renF1, Leaf.renF, LowAll, AV.Low, AV.Low1, Leaf.Low, AObj.Low, Ptr.renF, Ptr.Low]), i + 1, by omega, rfl, rfl⟩
  ·rw [List.range_succ, List.map_append, hAd]
   simp [objsLe, envLe, find, St.obj, AObj.renF, AV.renF, AV.renF1, Leaf.renF, LowAll, AV.Low, AV.Low1, Leaf.Low, AObj.Low, Ptr.renF, Ptr.Low]
   rfl
  ·simp [objsLe, envLe, find, St.obj, AObj.renF, AV.renF, AV.renF1, Leaf.renF, LowAll, AV.Low, AV.Low1, Leaf.Low, AObj.Low, Ptr.renF, Ptr.Low]
   omega
 ·have hge' : i = l.length := by omega
  subst hge'
  have hd : decide ((l.length : Int) < l.length) = false := by simp
  simp (maxSteps := 2000000) only [go_sem, seval, hlen, hd]
  apply hK
  refine evl ?_
  refine Fin.nt results13 [0] ?_ ?_ ?_ <;> try trivial
  rw [List.drop_length, List.map_nil, List.append_nil]
  simp [objsLe, envLe, find, St.obj, AObj.renF, AV.renF, AV.renF1, Leaf.renF, LowAll, AV.Low, AV.Low1, Leaf.Low, AObj.Low, Ptr.renF, Ptr.Low]
structure Bkt where
 Head : Int
 Ver : Int
 Lock : Int
 deriving DecidableEq
def encBkt (x : Bkt) : List D := [.int .i64 x.Head, .int .i64 x.Ver, .int .i64 x.Lock]
def Bkt.wf (x : Bkt) : Prop := (Lit.int .i64 x.Head).wf = true /\ (Lit.int .i64 x.Ver).wf = true /\ (Lit.int .i64 x.Lock).wf = true /\ True
theorem Bkt.eq_iff (x y : Bkt) : x = y ↔ x.Head = y.Head /\ x.Ver = y.Ver /\ x.Lock = y.Lock := by cases x; cases y; simp
structure Pin where
 On : Bool
 Epoch : Int
 Marked : Bool
 Seen : Int
 deriving DecidableEq
def encPin (x : Pin) : List D := [.bool x.On, .int .i64 x.Epoch, .bool x.Marked, .int .i64 x.Seen]
def Pin.wf (x : Pin) : Prop := (Lit.int .i64 x.Epoch).wf = true /\ (Lit.int .i64 x.Seen).wf = true /\ True
theorem Pin.eq_iff (x y : Pin) : x = y ↔ x.On = y.On /\ x.Epoch = y.Epoch /\ x.Marked = y.Marked /\ x.Seen = y.Seen := by cases x; cases y; simp
end Go.Proofs.Ytppbonemkipgeaa.Mod
