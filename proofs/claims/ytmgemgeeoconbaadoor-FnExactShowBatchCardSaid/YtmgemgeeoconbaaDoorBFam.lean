/- Contracts: Fam. -/
import Derived.Test.YtmgemgeeoconbaaDoorRows
import Derived.Test.YtmgemgeeoconbaaDoorBTy
import Derived.Test.YtmgemgeeoconbaaDoorAbsTac
import Derived.Test.YtmgemgeeoconbaaDoorAbsData
import Derived.Test.YtmgemgeeoconbaaDoorBBase
import Derived.WalkKit
import Derived.ProofKit
import Derived.OpenShut
namespace Go.Proofs.YtmgemgeeoconbaaDoor.Mod
open Go.Proofs.Tryd Go.Abs Go.Proofs.YtmgemgeeoconbaaDoor.Ty Go.ChangeShapes Go.WideShapes Go.ChangeAt Go.RowKit
set_option linter.unusedSimpArgs false
set_option linter.unusedVariables false
set_option maxHeartbeats 8000000
set_option maxRecDepth 100000
structure Cmd where
 Kind : Int
 Key : Int
 Val : Int
 deriving DecidableEq
def encCmd (x : Cmd) : List D := [.int .i64 x.Kind, .int .i64 x.Key, .int .i64 x.Val]
def Cmd.wf (x : Cmd) : Prop := (Lit.int .i64 x.Kind).wf = true /\ (Lit.int .i64 x.Key).wf = true /\ (Lit.int .i64 x.Val).wf = true /\ True
theorem Cmd.eq_iff (x y : Cmd) : x = y ↔ x.Kind = y.Kind /\ x.Key = y.Key /\ x.Val = y.Val := by cases x; cases y; simp
theorem c10 (x : Cmd) : Ctr prog 10 [.agg ((encCmd x).map .dat)] [] (.agg ((encCmd x).map .dat)) [] := by
 simp only [encCmd, List.map_cons, List.map_nil]
 refine Ctr.bd mixed func10 rfl ?_
 refine evl ?_
 repeat' first
  | ((with_reducible show Abs.Fin _ _ _ _ _ _); refine Fin.nt results10 [] ?_ ?_ ?_ <;> try trivial)
  | with_reducible intro h
  | ((with_reducible show _ /\ _); apply And.intro)
 all_goals first | rfl | simp
theorem c41 (l : List Cmd) (hl : l.length <= 1048576) : Ctr prog 41 [.one (.dat (.sl 3 (l.map encCmd)))] [] (.one (.own 0)) [.vec 3 true (l.map encCmd)] := by
 refine Ctr.bd mixed func41 rfl ?_
 refine evl ?_
 refine ⟨by omega, ?_⟩
 refine LoopK_intro (fun n s => ∃ i : Nat, i <= l.length /\ n = l.length - i /\ s = mkSt [(4, .one (.dat (.int .i64 i))), (3, .one (.own 0)), (0, .one (.dat (.sl 3 (l.map encCmd))))]
   [.vec 3 true ((l.take i).map encCmd ++ List.replicate (l.length - i) [.int .i64 0, .int .i64 0, .int .i64 0])]) l.length _
  (Ent.weak (ids := [0]) (by simp) rfl (by simp) ?_ ?_ ?_) ⟨0, by omega, by omega, rfl⟩ ?_
 ·simp [objsLe, St.obj, find, AObj.renF]
 ·simp [envLe, find, AV.renF, AV.renF1, Leaf.renF]
 ·simp [LowAll, AV.Low, AV.Low1, Leaf.Low, AObj.Low]
 rintro n s ⟨i, hi, rfl, rfl⟩ K hK
 refine evl ?_
 constructor <;> intro h
 ·have hlt : i < l.length := by simpa using h
  refine ⟨⟨by omega, by omega⟩, hlt, ?_⟩
  simp only [getD_map hlt, encCmd, List.map_cons, List.map_nil, List.take_succ_cons, List.take_zero]
  refine CallK_pure e10 (c10 l[i]) rfl ?_
  simp (maxSteps := 2000000) only [go_sem, seval, encCmd, D.flat, wrap_succ hlt (le20 hl)]
  refine ⟨by simp; omega, by simp; omega, ?_⟩
  apply hK
  refine ⟨l.length - (i + 1), _, by omega, Ent.weak (ids := [0]) (by simp) rfl (by simp) ?_ ?_ ?_, i + 1, by omega, rfl, rfl⟩
  ·simp only [objsLe, St.obj, find, AObj.renF, if_true, Option.getD_some, List.getD_cons_zero, and_true]
   rw [<- take_set encCmd l _ hlt]
   exact ⟨Nat.zero_lt_one, Or.inr rfl⟩
  ·simp [envLe, find, AV.renF, AV.renF1, Leaf.renF]
  ·simp [LowAll, AV.Low, AV.Low1, Leaf.Low, AObj.Low]
 ·have hge : i = l.length := by simp at h; omega
  subst hge
  apply hK
  refine evl ?_
  refine Fin.nt results41 [0] ?_ ?_ ?_ <;> try trivial
  all_goals simp [objsLe, St.obj, find, AObj.renF]
theorem c39 (rows : List (List D)) (left : Int) (h0 : 0 <= left) (h1 : left <= 1048576) (hl : rows.length <= maxLen) : Ctr prog 39 [.one (.dat (.sl 3 rows)), .one (.dat (.int .i64 left))] [] (.one (.dat (.int .i64 (szL left rows.length)))) [] := by
 have hw := szL_wrap h0 h1 hl
 refine Ctr.bd mixed func39 rfl ?_
 refine sv0 ?_
 repeat' first
  | ((with_reducible show Abs.Fin _ _ _ _ _ _); refine Fin.nt results39 [] ?_ ?_ ?_ <;> try trivial)
  | with_reducible intro h
  | ((with_reducible show _ /\ _); apply And.intro)
 all_goals try ((refine rsl ?_; try exact .intro))
 all_goals simp_all [szL]
 all_goals omega
theorem c22 (x y : Cmd) : Ctr prog 22 [.agg ((encCmd x).map .dat), .agg ((encCmd y).map .dat)] [] (.one (.dat (.bool (decide (x = y))))) [] := by
 simp only [encCmd, List.map_cons, List.map_nil]
 refine Ctr.bd mixed func22 rfl ?_
 refine evl ?_
 repeat' first
  | ((with_reducible show Abs.Fin _ _ _ _ _ _); refine Fin.nt results22 [] ?_ ?_ ?_ <;> try trivial)
  | with_reducible intro h
  | ((with_reducible show _ /\ _); apply And.intro)
 all_goals try ((refine rsl ?_; try exact .intro))
 all_goals simp_all [Cmd.eq_iff]
theorem c44 (l l' : List Cmd) (hl : l.length <= maxLen) (hl' : l'.length <= maxLen) : Ctr prog 44 [.one (.dat (.sl 3 (l.map encCmd))), .one (.dat (.sl 3 (l'.map encCmd)))] [] (.one (.dat (.bool (decide (l = l'))))) [] := by
 refine Ctr.bd mixed func44 rfl ?_
 refine evl ?_
 constructor <;> intro h
 ·have hne : l.length ≠ l'.length := by simp at h; omega
  refine Fin.nt results44 [] ?_ ?_ ?_ <;> try trivial
  (refine rsl ?_; try exact .intro)
  symm; rw [decide_eq_false_iff_not]
  intro e; exact hne (by rw [e])
 have hlen : l.length = l'.length := by simp at h; omega
 refine LoopK_intro (fun n s => ∃ i : Nat, i <= l.length /\ n = l.length - i /\ l.take i = l'.take i /\ s = mkSt [(5, .one (.dat (.int .i64 i))), (1, .one (.dat (.sl 3 (l'.map encCmd)))), (0, .one (.dat (.sl 3 (l.map encCmd))))] []) l.length _
  (Ent.weak (ids := []) (by simp) rfl (by simp) ?_ ?_ ?_) ⟨0, by omega, by omega, rfl, rfl⟩ ?_
 ·simp [objsLe, St.obj, find, AObj.renF]
 ·simp [envLe, find, AV.renF, AV.renF1, Leaf.renF]
 ·simp [LowAll, AV.Low, AV.Low1, Leaf.Low, AObj.Low]
 rintro n s ⟨i, hi, rfl, ht, rfl⟩ K hK
 refine evl ?_
 constructor <;> intro h
 ·have hlt : i < l.length := by simpa using h
  have hlt' : i < l'.length := by omega
  refine ⟨⟨by omega, by omega⟩, hlt, ⟨by omega, by omega⟩, hlt', ?_⟩
  simp only [getD_map hlt, getD_map hlt', encCmd, List.map_cons, List.map_nil, List.take_succ_cons, List.take_zero]
  first
   | refine CCallK_intro e22 (fun _ => ⟨trivial, c22 l[i] l'[i]⟩) rfl rfl ?_
   | refine Or.inl (CCallK_intro e22 (fun _ => ⟨trivial, c22 l[i] l'[i]⟩) rfl rfl ?_)
  simp (maxSteps := 2000000) only [go_sem, seval, wrap_succ hlt hl]
  constructor <;> intro h
  ·apply hK
   refine evl ?_
   refine Fin.nt results44 [] ?_ ?_ ?_ <;> try trivial
   (refine rsl ?_; try exact .intro)
   symm; rw [decide_eq_false_iff_not]
   rintro rfl; simp at h
  ·apply hK
   have he : l[i] = l'[i] := by simpa using h
   refine ⟨l.length - (i + 1), _, by omega, Ent.weak (ids := []) (by simp) rfl (by simp) ?_ ?_ ?_, i + 1, by omega, rfl, ?_, rfl⟩
   ·simp [objsLe, St.obj, find, AObj.renF]
   ·simp [envLe, find, AV.renF, AV.renF1, Leaf.renF]
   ·simp [LowAll, AV.Low, AV.Low1, Leaf.Low, AObj.Low]
   ·rw [List.take_succ_eq_append_getElem hlt, List.take_succ_eq_append_getElem hlt', ht, he]
 ·have hge : i = l.length := by simp at h; omega
  subst hge
  apply hK
  refine evl ?_
  refine Fin.nt results44 [] ?_ ?_ ?_ <;> try trivial
  (refine rsl ?_; try exact .intro)
  symm; rw [decide_eq_true_iff]
  rw [List.take_of_length_le (Nat.le_refl _), List.take_of_length_le (by omega)] at ht
  exact ht
end Go.Proofs.YtmgemgeeoconbaaDoor.Mod
