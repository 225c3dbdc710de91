import Derived.Test.YtkmmgklnoagedaaGreatRows
import Derived.Test.YtkmmgklnoagedaaGreatQATy
import Derived.Test.YtkmmgklnoagedaaGreatQAbsTac
import Derived.Test.YtkmmgklnoagedaaGreatQAbsData
import Derived.Test.YtkmmgklnoagedaaGreatQABase
import Derived.WalkKit
import Derived.ProofKit
import Derived.OpenShut
/- Contracts: Fam. -/
namespace Go.Proofs.YtkmmgklnoagedaaGreat.Mod
open Go.Proofs.Tryz Go.Abs Go.Proofs.YtkmmgklnoagedaaGreat.Ty Go.ChangeShapes Go.WideShapes Go.ChangeAt Go.RowKit
set_option linter.unusedSimpArgs false
set_option linter.unusedVariables false
set_option maxHeartbeats 8000000
set_option maxRecDepth 100000
structure KV where
 Key : Int
 Val : Int
 deriving DecidableEq
def encKV (x : KV) : List D := [.int .i64 x.Key, .int .i64 x.Val]
def KV.wf (x : KV) : Prop := (Lit.int .i64 x.Key).wf = true /\ (Lit.int .i64 x.Val).wf = true /\ True
theorem KV.eq_iff (x y : KV) : x = y ↔ x.Key = y.Key /\ x.Val = y.Val := by cases x; cases y; simp
structure Seen where
 Bkt : Int
 Ver : Int
 deriving DecidableEq
def encSeen (x : Seen) : List D := [.int .i64 x.Bkt, .int .i64 x.Ver]
def Seen.wf (x : Seen) : Prop := (Lit.int .i64 x.Bkt).wf = true /\ (Lit.int .i64 x.Ver).wf = true /\ True
theorem Seen.eq_iff (x y : Seen) : x = y ↔ x.Bkt = y.Bkt /\ x.Ver = y.Ver := by cases x; cases y; simp
theorem c293 (x : Seen) : Ctr prog 293 [.agg ((encSeen x).map .dat)] [] (.agg ((encSeen x).map .dat)) [] := by
 simp only [encSeen, List.map_cons, List.map_nil]
 refine Ctr.bd aa func293 rfl ?_
 refine evl ?_
 repeat' first
  | ((with_reducible show Abs.Fin _ _ _ _ _ _); refine Fin.nt results293 [] ?_ ?_ ?_ <;> try trivial)
  | with_reducible intro h
  | ((with_reducible show _ /\ _); apply And.intro)
 all_goals first | rfl | simp
theorem c226 (l : List Seen) (hl : l.length <= 1048576) : Ctr prog 226 [.one (.dat (.sl 2 (l.map encSeen)))] [] (.one (.own 0)) [.vec 2 true (l.map encSeen)] := by
 refine Ctr.bd aa func226 rfl ?_
 refine evl ?_
 refine ⟨by omega, ?_⟩
 refine ab (fun n s => ∃ i : Nat, i <= l.length /\ n = l.length - i /\ s = mkSt [(4, .one (.dat (.int .i64 i))), (3, .one (.own 0)), (0, .one (.dat (.sl 2 (l.map encSeen))))]
   [.vec 2 true ((l.take i).map encSeen ++ List.replicate (l.length - i) [.int .i64 0, .int .i64 0])]) l.length _
  (Ent.weak (ids := [0]) (by simp) rfl (by simp) ?_ ?_ ?_) ⟨0, by omega, by omega, rfl⟩ ?_
 ·simp [objsLe, St.obj, find, AObj.renF]
 ·simp [envLe, find, AV.renF, AV.renF1, Leaf.renF]
 ·simp [LowAll, AV.Low, AV.Low1, Leaf.Low, AObj.Low]
 rintro n s ⟨i, hi, rfl, rfl⟩ K hK
 refine evl ?_
 constructor <;> intro h
 ·have hlt : i < l.length := by simpa using h
  refine ⟨⟨by omega, by omega⟩, hlt, ?_⟩
  simp only [getD_map hlt, encSeen, List.map_cons, List.map_nil, List.take_succ_cons, List.take_zero]
  refine ae e293 (c293 l[i]) rfl ?_
  simp (maxSteps := 2000000) only [go_sem, seval, encSeen, D.flat, ah hlt (le20 hl)]
  refine ⟨by simp; omega, by simp; omega, ?_⟩
  apply hK
  refine ⟨l.length - (i + 1), _, by omega, Ent.weak (ids := [0]) (by simp) rfl (by simp) ?_ ?_ ?_, i + 1, by omega, rfl, rfl⟩
  ·simp only [objsLe, St.obj, find, AObj.renF, if_true, Option.getD_some, List.getD_cons_zero, and_true]
   rw [<- aS encSeen l _ hlt]
   exact ⟨Nat.zero_lt_one, Or.inr rfl⟩
  ·simp [envLe, find, AV.renF, AV.renF1, Leaf.renF]
  ·simp [LowAll, AV.Low, AV.Low1, Leaf.Low, AObj.Low]
 ·have hge : i = l.length := by simp at h; omega
  subst hge
  apply hK
  refine evl ?_
  refine Fin.nt results226 [0] ?_ ?_ ?_ <;> try trivial
  all_goals simp [objsLe, St.obj, find, AObj.renF]
theorem c203 (rows : List (List D)) (left : Int) (h0 : 0 <= left) (h1 : left <= 1048576) (hl : rows.length <= maxLen) : Ctr prog 203 [.one (.dat (.sl 2 rows)), .one (.dat (.int .i64 left))] [] (.one (.dat (.int .i64 (szL left rows.length)))) [] := by
 have hw := aT h0 h1 hl
 refine Ctr.bd aa func203 rfl ?_
 refine sv2 ?_
 repeat' first
  | ((with_reducible show Abs.Fin _ _ _ _ _ _); refine Fin.nt results203 [] ?_ ?_ ?_ <;> try trivial)
  | with_reducible intro h
  | ((with_reducible show _ /\ _); apply And.intro)
 all_goals try ((refine rsl ?_; try exact .intro))
 all_goals simp_all [szL]
 all_goals omega
theorem c276 (x y : Seen) : Ctr prog 276 [.agg ((encSeen x).map .dat), .agg ((encSeen y).map .dat)] [] (.one (.dat (.bool (decide (x = y))))) [] := by
 simp only [encSeen, List.map_cons, List.map_nil]
 refine Ctr.bd aa func276 rfl ?_
 refine evl ?_
 repeat' first
  | ((with_reducible show Abs.Fin _ _ _ _ _ _); refine Fin.nt results276 [] ?_ ?_ ?_ <;> try trivial)
  | with_reducible intro h
  | ((with_reducible show _ /\ _); apply And.intro)
 all_goals try ((refine rsl ?_; try exact .intro))
 all_goals simp_all [Seen.eq_iff]
theorem c187 (l l' : List Seen) (hl : l.length <= maxLen) (hl' : l'.length <= maxLen) : Ctr prog 187 [.one (.dat (.sl 2 (l.map encSeen))), .one (.dat (.sl 2 (l'.map encSeen)))] [] (.one (.dat (.bool (decide (l = l'))))) [] := by
 refine Ctr.bd aa func187 rfl ?_
 refine evl ?_
 constructor <;> intro h
 ·have hne : l.length ≠ l'.length := by simp at h; omega
  refine Fin.nt results187 [] ?_ ?_ ?_ <;> try trivial
  (refine rsl ?_; try exact .intro)
  symm; rw [decide_eq_false_iff_not]
  intro e; exact hne (by rw [e])
 have hlen : l.length = l'.length := by simp at h; omega
 refine ab (fun n s => ∃ i : Nat, i <= l.length /\ n = l.length - i /\ l.take i = l'.take i /\ s = mkSt [(5, .one (.dat (.int .i64 i))), (1, .one (.dat (.sl 2 (l'.map encSeen)))), (0, .one (.dat (.sl 2 (l.map encSeen))))] []) l.length _
  (Ent.weak (ids := []) (by simp) rfl (by simp) ?_ ?_ ?_) ⟨0, by omega, by omega, rfl, rfl⟩ ?_
 ·simp [objsLe, St.obj, find, AObj.renF]
 ·simp [envLe, find, AV.renF, AV.renF1, Leaf.renF]
 ·simp [LowAll, AV.Low, AV.Low1, Leaf.Low, AObj.Low]
 rintro n s ⟨i, hi, rfl, ht, rfl⟩ K hK
 refine evl ?_
 constructor <;> intro h
 ·have hlt : i < l.length := by simpa using h
  have hlt' : i < l'.length := by omega
  refine ⟨⟨by omega, by omega⟩, hlt, ⟨by omega, by omega⟩, hlt', ?_⟩
  simp only [getD_map hlt, getD_map hlt', encSeen, List.map_cons, List.map_nil, List.take_succ_cons, List.take_zero]
  first
   | refine aj e276 (fun _ => ⟨trivial, c276 l[i] l'[i]⟩) rfl rfl ?_
   | refine Or.inl (aj e276 (fun _ => ⟨trivial, c276 l[i] l'[i]⟩) rfl rfl ?_)
  refine sv0 ?_
  constructor <;> intro h
  ·apply hK
   refine evl ?_
   refine Fin.nt results187 [] ?_ ?_ ?_ <;> try trivial
   (refine rsl ?_; try exact .intro)
   symm; rw [decide_eq_false_iff_not]
   rintro rfl; simp at h
  ·apply hK
   have he : l[i] = l'[i] := by simpa using h
   refine ⟨l.length - (i + 1), _, by omega, Ent.weak (ids := []) (by simp) rfl (by simp) ?_ ?_ ?_, i + 1, by omega, rfl, ?_, rfl⟩
   ·simp [objsLe, St.obj, find, AObj.renF]
   ·simp [envLe, find, AV.renF, AV.renF1, Leaf.renF]
   ·simp [LowAll, AV.Low, AV.Low1, Leaf.Low, AObj.Low]
   ·rw [List.take_succ_eq_append_getElem hlt, List.take_succ_eq_append_getElem hlt', ht, he]
 ·have hge : i = l.length := by simp at h; omega
  subst hge
  apply hK
  refine evl ?_
  refine Fin.nt results187 [] ?_ ?_ ?_ <;> try trivial
  (refine rsl ?_; try exact .intro)
  symm; rw [decide_eq_true_iff]
  rw [List.take_of_length_le (Nat.le_refl _), List.take_of_length_le (by omega)] at ht
  exact ht
structure Write where
 Key : Int
 Del : Bool
 Val : Int
 deriving DecidableEq
def encWrite (x : Write) : List D := [.int .i64 x.Key, .bool x.Del, .int .i64 x.Val]
def Write.wf (x : Write) : Prop := (Lit.int .i64 x.Key).wf = true /\ (Lit.int .i64 x.Val).wf = true /\ True
theorem Write.eq_iff (x y : Write) : x = y ↔ x.Key = y.Key /\ x.Del = y.Del /\ x.Val = y.Val := by cases x; cases y; simp
theorem c294 (x : Write) : Ctr prog 294 [.agg ((encWrite x).map .dat)] [] (.agg ((encWrite x).map .dat)) [] := by
 simp only [encWrite, List.map_cons, List.map_nil]
 refine Ctr.bd aa func294 rfl ?_
 refine evl ?_
 repeat' first
  | ((with_reducible show Abs.Fin _ _ _ _ _ _); refine Fin.nt results294 [] ?_ ?_ ?_ <;> try trivial)
  | with_reducible intro h
  | ((with_reducible show _ /\ _); apply And.intro)
 all_goals first | rfl | simp
theorem c227 (l : List Write) (hl : l.length <= 1048576) : Ctr prog 227 [.one (.dat (.sl 3 (l.map encWrite)))] [] (.one (.own 0)) [.vec 3 true (l.map encWrite)] := by
 refine Ctr.bd aa func227 rfl ?_
 refine evl ?_
 refine ⟨by omega, ?_⟩
 refine ab (fun n s => ∃ i : Nat, i <= l.length /\ n = l.length - i /\ s = mkSt [(4, .one (.dat (.int .i64 i))), (3, .one (.own 0)), (0, .one (.dat (.sl 3 (l.map encWrite))))]
   [.vec 3 true ((l.take i).map encWrite ++ List.replicate (l.length - i) [.int .i64 0, .bool false, .int .i64 0])]) l.length _
  (Ent.weak (ids := [0]) (by simp) rfl (by simp) ?_ ?_ ?_) ⟨0, by omega, by omega, rfl⟩ ?_
 ·simp [objsLe, St.obj, find, AObj.renF]
 ·simp [envLe, find, AV.renF, AV.renF1, Leaf.renF]
 ·simp [LowAll, AV.Low, AV.Low1, Leaf.Low, AObj.Low]
 rintro n s ⟨i, hi, rfl, rfl⟩ K hK
 refine evl ?_
 constructor <;> intro h
 ·have hlt : i < l.length := by simpa using h
  refine ⟨⟨by omega, by omega⟩, hlt, ?_⟩
  simp only [getD_map hlt, encWrite, List.map_cons, List.map_nil, List.take_succ_cons, List.take_zero]
  refine ae e294 (c294 l[i]) rfl ?_
  simp (maxSteps := 2000000) only [go_sem, seval, encWrite, D.flat, ah hlt (le20 hl)]
  refine ⟨by simp; omega, by simp; omega, ?_⟩
  apply hK
  refine ⟨l.length - (i + 1), _, by omega, Ent.weak (ids := [0]) (by simp) rfl (by simp) ?_ ?_ ?_, i + 1, by omega, rfl, rfl⟩
  ·simp only [objsLe, St.obj, find, AObj.renF, if_true, Option.getD_some, List.getD_cons_zero, and_true]
   rw [<- aS encWrite l _ hlt]
   exact ⟨Nat.zero_lt_one, Or.inr rfl⟩
  ·simp [envLe, find, AV.renF, AV.renF1, Leaf.renF]
  ·simp [LowAll, AV.Low, AV.Low1, Leaf.Low, AObj.Low]
 ·have hge : i = l.length := by simp at h; omega
  subst hge
  apply hK
  refine evl ?_
  refine Fin.nt results227 [0] ?_ ?_ ?_ <;> try trivial
  all_goals simp [objsLe, St.obj, find, AObj.renF]
theorem c204 (rows : List (List D)) (left : Int) (h0 : 0 <= left) (h1 : left <= 1048576) (hl : rows.length <= maxLen) : Ctr prog 204 [.one (.dat (.sl 3 rows)), .one (.dat (.int .i64 left))] [] (.one (.dat (.int .i64 (szL left rows.length)))) [] := by
 have hw := aT h0 h1 hl
 refine Ctr.bd aa func204 rfl ?_
 refine sv2 ?_
 repeat' first
  | ((with_reducible show Abs.Fin _ _ _ _ _ _); refine Fin.nt results204 [] ?_ ?_ ?_ <;> try trivial)
  | with_reducible intro h
  | ((with_reducible show _ /\ _); apply And.intro)
 all_goals try ((refine rsl ?_; try exact .intro))
 all_goals simp_all [szL]
 all_goals omega
theorem c277 (x y : Write) : Ctr prog 277 [.agg ((encWrite x).map .dat), .agg ((encWrite y).map .dat)] [] (.one (.dat (.bool (decide (x = y))))) [] := by
 simp only [encWrite, List.map_cons, List.map_nil]
 refine Ctr.bd aa func277 rfl ?_
 refine evl ?_
 repeat' first
  | ((with_reducible show Abs.Fin _ _ _ _ _ _); refine Fin.nt results277 [] ?_ ?_ ?_ <;> try trivial)
  | with_reducible intro h
  | ((with_reducible show _ /\ _); apply And.intro)
 all_goals try ((refine rsl ?_; try exact .intro))
 all_goals simp_all [Write.eq_iff]
theorem c188 (l l' : List Write) (hl : l.length <= maxLen) (hl' : l'.length <= maxLen) : Ctr prog 188 [.one (.dat (.sl 3 (l.map encWrite))), .one (.dat (.sl 3 (l'.map encWrite)))] [] (.one (.dat (.bool (decide (l = l'))))) [] := by
 refine Ctr.bd aa func188 rfl ?_
 refine evl ?_
 constructor <;> intro h
 ·have hne : l.length ≠ l'.length := by simp at h; omega
  refine Fin.nt results188 [] ?_ ?_ ?_ <;> try trivial
  (refine rsl ?_; try exact .intro)
  symm; rw [decide_eq_false_iff_not]
  intro e; exact hne (by rw [e])
 have hlen : l.length = l'.length := by simp at h; omega
 refine ab (fun n s => ∃ i : Nat, i <= l.length /\ n = l.length - i /\ l.take i = l'.take i /\ s = mkSt [(5, .one (.dat (.int .i64 i))), (1, .one (.dat (.sl 3 (l'.map encWrite)))), (0, .one (.dat (.sl 3 (l.map encWrite))))] []) l.length _
  (Ent.weak (ids := []) (by simp) rfl (by simp) ?_ ?_ ?_) ⟨0, by omega, by omega, rfl, rfl⟩ ?_
 ·simp [objsLe, St.obj, find, AObj.renF]
 ·simp [envLe, find, AV.renF, AV.renF1, Leaf.renF]
 ·simp [LowAll, AV.Low, AV.Low1, Leaf.Low, AObj.Low]
 rintro n s ⟨i, hi, rfl, ht, rfl⟩ K hK
 refine evl ?_
 constructor <;> intro h
 ·have hlt : i < l.length := by simpa using h
  have hlt' : i < l'.length := by omega
  refine ⟨⟨by omega, by omega⟩, hlt, ⟨by omega, by omega⟩, hlt', ?_⟩
  simp only [getD_map hlt, getD_map hlt', encWrite, List.map_cons, List.map_nil, List.take_succ_cons, List.take_zero]
  first
   | refine aj e277 (fun _ => ⟨trivial, c277 l[i] l'[i]⟩) rfl rfl ?_
   | refine Or.inl (aj e277 (fun _ => ⟨trivial, c277 l[i] l'[i]⟩) rfl rfl ?_)
  refine sv0 ?_
  constructor <;> intro h
  ·apply hK
   refine evl ?_
   refine Fin.nt results188 [] ?_ ?_ ?_ <;> try trivial
   (refine rsl ?_; try exact .intro)
   symm; rw [decide_eq_false_iff_not]
   rintro rfl; simp at h
  ·apply hK
   have he : l[i] = l'[i] := by simpa using h
   refine ⟨l.length - (i + 1), _, by omega, Ent.weak (ids := []) (by simp) rfl (by simp) ?_ ?_ ?_, i + 1, by omega, rfl, ?_, rfl⟩
   ·simp [objsLe, St.obj, find, AObj.renF]
   ·simp [envLe, find, AV.renF, AV.renF1, Leaf.renF]
   ·simp [LowAll, AV.Low, AV.Low1, Leaf.Low, AObj.Low]
   ·rw [List.take_succ_eq_append_getElem hlt, List.take_succ_eq_append_getElem hlt', ht, he]
 ·have hge : i = l.length := by simp at h; omega
  subst hge
  apply hK
  refine evl ?_
  refine Fin.nt results188 [] ?_ ?_ ?_ <;> try trivial
  (refine rsl ?_; try exact .intro)
  symm; rw [decide_eq_true_iff]
  rw [List.take_of_length_le (Nat.le_refl _), List.take_of_length_le (by omega)] at ht
  exact ht
structure Cmd where
 Kind : Int
 Key : Int
 Val : Int
 deriving DecidableEq
def encCmd (x : Cmd) : List D := [.int .i64 x.Kind, .int .i64 x.Key, .int .i64 x.Val]
def Cmd.wf (x : Cmd) : Prop := (Lit.int .i64 x.Kind).wf = true /\ (Lit.int .i64 x.Key).wf = true /\ (Lit.int .i64 x.Val).wf = true /\ True
theorem Cmd.eq_iff (x y : Cmd) : x = y ↔ x.Kind = y.Kind /\ x.Key = y.Key /\ x.Val = y.Val := by cases x; cases y; simp
theorem c296 (x : Cmd) : Ctr prog 296 [.agg ((encCmd x).map .dat)] [] (.agg ((encCmd x).map .dat)) [] := by
 simp only [encCmd, List.map_cons, List.map_nil]
 refine Ctr.bd aa func296 rfl ?_
 refine evl ?_
 repeat' first
  | ((with_reducible show Abs.Fin _ _ _ _ _ _); refine Fin.nt results296 [] ?_ ?_ ?_ <;> try trivial)
  | with_reducible intro h
  | ((with_reducible show _ /\ _); apply And.intro)
 all_goals first | rfl | simp
theorem c229 (l : List Cmd) (hl : l.length <= 1048576) : Ctr prog 229 [.one (.dat (.sl 3 (l.map encCmd)))] [] (.one (.own 0)) [.vec 3 true (l.map encCmd)] := by
 refine Ctr.bd aa func229 rfl ?_
 refine evl ?_
 refine ⟨by omega, ?_⟩
 refine ab (fun n s => ∃ i : Nat, i <= l.length /\ n = l.length - i /\ s = mkSt [(4, .one (.dat (.int .i64 i))), (3, .one (.own 0)), (0, .one (.dat (.sl 3 (l.map encCmd))))]
   [.vec 3 true ((l.take i).map encCmd ++ List.replicate (l.length - i) [.int .i64 0, .int .i64 0, .int .i64 0])]) l.length _
  (Ent.weak (ids := [0]) (by simp) rfl (by simp) ?_ ?_ ?_) ⟨0, by omega, by omega, rfl⟩ ?_
 ·simp [objsLe, St.obj, find, AObj.renF]
 ·simp [envLe, find, AV.renF, AV.renF1, Leaf.renF]
 ·simp [LowAll, AV.Low, AV.Low1, Leaf.Low, AObj.Low]
 rintro n s ⟨i, hi, rfl, rfl⟩ K hK
 refine evl ?_
 constructor <;> intro h
 ·have hlt : i < l.length := by simpa using h
  refine ⟨⟨by omega, by omega⟩, hlt, ?_⟩
  simp only [getD_map hlt, encCmd, List.map_cons, List.map_nil, List.take_succ_cons, List.take_zero]
  refine ae e296 (c296 l[i]) rfl ?_
  simp (maxSteps := 2000000) only [go_sem, seval, encCmd, D.flat, ah hlt (le20 hl)]
  refine ⟨by simp; omega, by simp; omega, ?_⟩
  apply hK
  refine ⟨l.length - (i + 1), _, by omega, Ent.weak (ids := [0]) (by simp) rfl (by simp) ?_ ?_ ?_, i + 1, by omega, rfl, rfl⟩
  ·simp only [objsLe, St.obj, find, AObj.renF, if_true, Option.getD_some, List.getD_cons_zero, and_true]
   rw [<- aS encCmd l _ hlt]
   exact ⟨Nat.zero_lt_one, Or.inr rfl⟩
  ·simp [envLe, find, AV.renF, AV.renF1, Leaf.renF]
  ·simp [LowAll, AV.Low, AV.Low1, Leaf.Low, AObj.Low]
 ·have hge : i = l.length := by simp at h; omega
  subst hge
  apply hK
  refine evl ?_
  refine Fin.nt results229 [0] ?_ ?_ ?_ <;> try trivial
  all_goals simp [objsLe, St.obj, find, AObj.renF]
theorem c206 (rows : List (List D)) (left : Int) (h0 : 0 <= left) (h1 : left <= 1048576) (hl : rows.length <= maxLen) : Ctr prog 206 [.one (.dat (.sl 3 rows)), .one (.dat (.int .i64 left))] [] (.one (.dat (.int .i64 (szL left rows.length)))) [] := by
 have hw := aT h0 h1 hl
 refine Ctr.bd aa func206 rfl ?_
 refine sv2 ?_
 repeat' first
  | ((with_reducible show Abs.Fin _ _ _ _ _ _); refine Fin.nt results206 [] ?_ ?_ ?_ <;> try trivial)
  | with_reducible intro h
  | ((with_reducible show _ /\ _); apply And.intro)
 all_goals try ((refine rsl ?_; try exact .intro))
 all_goals simp_all [szL]
 all_goals omega
theorem c279 (x y : Cmd) : Ctr prog 279 [.agg ((encCmd x).map .dat), .agg ((encCmd y).map .dat)] [] (.one (.dat (.bool (decide (x = y))))) [] := by
 simp only [encCmd, List.map_cons, List.map_nil]
 refine Ctr.bd aa func279 rfl ?_
 refine evl ?_
 repeat' first
  | ((with_reducible show Abs.Fin _ _ _ _ _ _); refine Fin.nt results279 [] ?_ ?_ ?_ <;> try trivial)
  | with_reducible intro h
  | ((with_reducible show _ /\ _); apply And.intro)
 all_goals try ((refine rsl ?_; try exact .intro))
 all_goals simp_all [Cmd.eq_iff]
theorem c190 (l l' : List Cmd) (hl : l.length <= maxLen) (hl' : l'.length <= maxLen) : Ctr prog 190 [.one (.dat (.sl 3 (l.map encCmd))), .one (.dat (.sl 3 (l'.map encCmd)))] [] (.one (.dat (.bool (decide (l = l'))))) [] := by
 refine Ctr.bd aa func190 rfl ?_
 refine evl ?_
 constructor <;> intro h
 ·have hne : l.length ≠ l'.length := by simp at h; omega
  refine Fin.nt results190 [] ?_ ?_ ?_ <;> try trivial
  (refine rsl ?_; try exact .intro)
  symm; rw [decide_eq_false_iff_not]
  intro e; exact hne (by rw [e])
 have hlen : l.length = l'.length := by simp at h; omega
 refine ab (fun n s => ∃ i : Nat, i <= l.length /\ n = l.length - i /\ l.take i = l'.take i /\ s = mkSt [(5, .one (.dat (.int .i64 i))), (1, .one (.dat (.sl 3 (l'.map encCmd)))), (0, .one (.dat (.sl 3 (l.map encCmd))))] []) l.length _
  (Ent.weak (ids := []) (by simp) rfl (by simp) ?_ ?_ ?_) ⟨0, by omega, by omega, rfl, rfl⟩ ?_
 ·simp [objsLe, St.obj, find, AObj.renF]
 ·simp [envLe, find, AV.renF, AV.renF1, Leaf.renF]
 ·simp [LowAll, AV.Low, AV.Low1, Leaf.Low, AObj.Low]
 rintro n s ⟨i, hi, rfl, ht, rfl⟩ K hK
 refine evl ?_
 constructor <;> intro h
 ·have hlt : i < l.length := by simpa using h
  have hlt' : i < l'.length := by omega
  refine ⟨⟨by omega, by omega⟩, hlt, ⟨by omega, by omega⟩, hlt', ?_⟩
  simp only [getD_map hlt, getD_map hlt', encCmd, List.map_cons, List.map_nil, List.take_succ_cons, List.take_zero]
  first
   | refine aj e279 (fun _ => ⟨trivial, c279 l[i] l'[i]⟩) rfl rfl ?_
   | refine Or.inl (aj e279 (fun _ => ⟨trivial, c279 l[i] l'[i]⟩) rfl rfl ?_)
  refine sv0 ?_
  constructor <;> intro h
  ·apply hK
   refine evl ?_
   refine Fin.nt results190 [] ?_ ?_ ?_ <;> try trivial
   (refine rsl ?_; try exact .intro)
   symm; rw [decide_eq_false_iff_not]
   rintro rfl; simp at h
  ·apply hK
   have he : l[i] = l'[i] := by simpa using h
   refine ⟨l.length - (i + 1), _, by omega, Ent.weak (ids := []) (by simp) rfl (by simp) ?_ ?_ ?_, i + 1, by omega, rfl, ?_, rfl⟩
   ·simp [objsLe, St.obj, find, AObj.renF]
   ·simp [envLe, find, AV.renF, AV.renF1, Leaf.renF]
   ·simp [LowAll, AV.Low, AV.Low1, Leaf.Low, AObj.Low]
   ·rw [List.take_succ_eq_append_getElem hlt, List.take_succ_eq_append_getElem hlt', ht, he]
 ·have hge : i = l.length := by simp at h; omega
  subst hge
  apply hK
  refine evl ?_
  refine Fin.nt results190 [] ?_ ?_ ?_ <;> try trivial
  (refine rsl ?_; try exact .intro)
  symm; rw [decide_eq_true_iff]
  rw [List.take_of_length_le (Nat.le_refl _), List.take_of_length_le (by omega)] at ht
  exact ht
structure Bkt where
 Head : Int
 Ver : Int
 Lock : Int
 deriving DecidableEq
def encBkt (x : Bkt) : List D := [.int .i64 x.Head, .int .i64 x.Ver, .int .i64 x.Lock]
def Bkt.wf (x : Bkt) : Prop := (Lit.int .i64 x.Head).wf = true /\ (Lit.int .i64 x.Ver).wf = true /\ (Lit.int .i64 x.Lock).wf = true /\ True
theorem Bkt.eq_iff (x y : Bkt) : x = y ↔ x.Head = y.Head /\ x.Ver = y.Ver /\ x.Lock = y.Lock := by cases x; cases y; simp
theorem c134 (x : Bkt) : Ctr prog 134 [.agg ((encBkt x).map .dat)] [] (.agg ((encBkt x).map .dat)) [] := by
 simp only [encBkt, List.map_cons, List.map_nil]
 refine Ctr.bd aa func134 rfl ?_
 refine evl ?_
 repeat' first
  | ((with_reducible show Abs.Fin _ _ _ _ _ _); refine Fin.nt results134 [] ?_ ?_ ?_ <;> try trivial)
  | with_reducible intro h
  | ((with_reducible show _ /\ _); apply And.intro)
 all_goals first | rfl | simp
theorem c57 (l : List Bkt) (hl : l.length <= 1048576) : Ctr prog 57 [.one (.dat (.sl 3 (l.map encBkt)))] [] (.one (.own 0)) [.vec 3 true (l.map encBkt)] := by
 refine Ctr.bd aa func57 rfl ?_
 refine evl ?_
 refine ⟨by omega, ?_⟩
 refine ab (fun n s => ∃ i : Nat, i <= l.length /\ n = l.length - i /\ s = mkSt [(4, .one (.dat (.int .i64 i))), (3, .one (.own 0)), (0, .one (.dat (.sl 3 (l.map encBkt))))]
   [.vec 3 true ((l.take i).map encBkt ++ List.replicate (l.length - i) [.int .i64 0, .int .i64 0, .int .i64 0])]) l.length _
  (Ent.weak (ids := [0]) (by simp) rfl (by simp) ?_ ?_ ?_) ⟨0, by omega, by omega, rfl⟩ ?_
 ·simp [objsLe, St.obj, find, AObj.renF]
 ·simp [envLe, find, AV.renF, AV.renF1, Leaf.renF]
 ·simp [LowAll, AV.Low, AV.Low1, Leaf.Low, AObj.Low]
 rintro n s ⟨i, hi, rfl, rfl⟩ K hK
 refine evl ?_
 constructor <;> intro h
 ·have hlt : i < l.length := by simpa using h
  refine ⟨⟨by omega, by omega⟩, hlt, ?_⟩
  simp only [getD_map hlt, encBkt, List.map_cons, List.map_nil, List.take_succ_cons, List.take_zero]
  refine ae e134 (c134 l[i]) rfl ?_
  simp (maxSteps := 2000000) only [go_sem, seval, encBkt, D.flat, ah hlt (le20 hl)]
  refine ⟨by simp; omega, by simp; omega, ?_⟩
  apply hK
  refine ⟨l.length - (i + 1), _, by omega, Ent.weak (ids := [0]) (by simp) rfl (by simp) ?_ ?_ ?_, i + 1, by omega, rfl, rfl⟩
  ·simp only [objsLe, St.obj, find, AObj.renF, if_true, Option.getD_some, List.getD_cons_zero, and_true]
   rw [<- aS encBkt l _ hlt]
   exact ⟨Nat.zero_lt_one, Or.inr rfl⟩
  ·simp [envLe, find, AV.renF, AV.renF1, Leaf.renF]
  ·simp [LowAll, AV.Low, AV.Low1, Leaf.Low, AObj.Low]
 ·have hge : i = l.length := by simp at h; omega
  subst hge
  apply hK
  refine evl ?_
  refine Fin.nt results57 [0] ?_ ?_ ?_ <;> try trivial
  all_goals simp [objsLe, St.obj, find, AObj.renF]
theorem c48 (rows : List (List D)) (left : Int) (h0 : 0 <= left) (h1 : left <= 1048576) (hl : rows.length <= maxLen) : Ctr prog 48 [.one (.dat (.sl 3 rows)), .one (.dat (.int .i64 left))] [] (.one (.dat (.int .i64 (szL left rows.length)))) [] := by
 have hw := aT h0 h1 hl
 refine Ctr.bd aa func48 rfl ?_
 refine sv2 ?_
 repeat' first
  | ((with_reducible show Abs.Fin _ _ _ _ _ _); refine Fin.nt results48 [] ?_ ?_ ?_ <;> try trivial)
  | with_reducible intro h
  | ((with_reducible show _ /\ _); apply And.intro)
 all_goals try ((refine rsl ?_; try exact .intro))
 all_goals simp_all [szL]
 all_goals omega
theorem c95 (x y : Bkt) : Ctr prog 95 [.agg ((encBkt x).map .dat), .agg ((encBkt y).map .dat)] [] (.one (.dat (.bool (decide (x = y))))) [] := by
 simp only [encBkt, List.map_cons, List.map_nil]
 refine Ctr.bd aa func95 rfl ?_
 refine evl ?_
 repeat' first
  | ((with_reducible show Abs.Fin _ _ _ _ _ _); refine Fin.nt results95 [] ?_ ?_ ?_ <;> try trivial)
  | with_reducible intro h
  | ((with_reducible show _ /\ _); apply And.intro)
 all_goals try ((refine rsl ?_; try exact .intro))
 all_goals simp_all [Bkt.eq_iff]
theorem c33 (l l' : List Bkt) (hl : l.length <= maxLen) (hl' : l'.length <= maxLen) : Ctr prog 33 [.one (.dat (.sl 3 (l.map encBkt))), .one (.dat (.sl 3 (l'.map encBkt)))] [] (.one (.dat (.bool (decide (l = l'))))) [] := by
 refine Ctr.bd aa func33 rfl ?_
 refine evl ?_
 constructor <;> intro h
 ·have hne : l.length ≠ l'.length := by simp at h; omega
  refine Fin.nt results33 [] ?_ ?_ ?_ <;> try trivial
  (refine rsl ?_; try exact .intro)
  symm; rw [decide_eq_false_iff_not]
  intro e; exact hne (by rw [e])
 have hlen : l.length = l'.length := by simp at h; omega
 refine ab (fun n s => ∃ i : Nat, i <= l.length /\ n = l.length - i /\ l.take i = l'.take i /\ s = mkSt [(5, .one (.dat (.int .i64 i))), (1, .one (.dat (.sl 3 (l'.map encBkt)))), (0, .one (.dat (.sl 3 (l.map encBkt))))] []) l.length _
  (Ent.weak (ids := []) (by simp) rfl (by simp) ?_ ?_ ?_) ⟨0, by omega, by omega, rfl, rfl⟩ ?_
 ·simp [objsLe, St.obj, find, AObj.renF]
 ·simp [envLe, find, AV.renF, AV.renF1, Leaf.renF]
 ·simp [LowAll, AV.Low, AV.Low1, Leaf.Low, AObj.Low]
 rintro n s ⟨i, hi, rfl, ht, rfl⟩ K hK
 refine evl ?_
 constructor <;> intro h
 ·have hlt : i < l.length := by simpa using h
  have hlt' : i < l'.length := by omega
  refine ⟨⟨by omega, by omega⟩, hlt, ⟨by omega, by omega⟩, hlt', ?_⟩
  simp only [getD_map hlt, getD_map hlt', encBkt, List.map_cons, List.map_nil, List.take_succ_cons, List.take_zero]
  first
   | refine aj e95 (fun _ => ⟨trivial, c95 l[i] l'[i]⟩) rfl rfl ?_
   | refine Or.inl (aj e95 (fun _ => ⟨trivial, c95 l[i] l'[i]⟩) rfl rfl ?_)
  refine sv0 ?_
  constructor <;> intro h
  ·apply hK
   refine evl ?_
   refine Fin.nt results33 [] ?_ ?_ ?_ <;> try trivial
   (refine rsl ?_; try exact .intro)
   symm; rw [decide_eq_false_iff_not]
   rintro rfl; simp at h
  ·apply hK
   have he : l[i] = l'[i] := by simpa using h
   refine ⟨l.length - (i + 1), _, by omega, Ent.weak (ids := []) (by simp) rfl (by simp) ?_ ?_ ?_, i + 1, by omega, rfl, ?_, rfl⟩
   ·simp [objsLe, St.obj, find, AObj.renF]
   ·simp [envLe, find, AV.renF, AV.renF1, Leaf.renF]
   ·simp [LowAll, AV.Low, AV.Low1, Leaf.Low, AObj.Low]
   ·rw [List.take_succ_eq_append_getElem hlt, List.take_succ_eq_append_getElem hlt', ht, he]
 ·have hge : i = l.length := by simp at h; omega
  subst hge
  apply hK
  refine evl ?_
  refine Fin.nt results33 [] ?_ ?_ ?_ <;> try trivial
  (refine rsl ?_; try exact .intro)
  symm; rw [decide_eq_true_iff]
  rw [List.take_of_length_le (Nat.le_refl _), List.take_of_length_le (by omega)] at ht
  exact ht
structure Node where
 Key : Int
 Val : Int
 Next : Int
 deriving DecidableEq
def encNode (x : Node) : List D := [.int .i64 x.Key, .int .i64 x.Val, .int .i64 x.Next]
def Node.wf (x : Node) : Prop := (Lit.int .i64 x.Key).wf = true /\ (Lit.int .i64 x.Val).wf = true /\ (Lit.int .i64 x.Next).wf = true /\ True
theorem Node.eq_iff (x y : Node) : x = y ↔ x.Key = y.Key /\ x.Val = y.Val /\ x.Next = y.Next := by cases x; cases y; simp
theorem c224 (x : Node) : Ctr prog 224 [.agg ((encNode x).map .dat)] [] (.agg ((encNode x).map .dat)) [] := by
 simp only [encNode, List.map_cons, List.map_nil]
 refine Ctr.bd aa func224 rfl ?_
 refine evl ?_
 repeat' first
  | ((with_reducible show Abs.Fin _ _ _ _ _ _); refine Fin.nt results224 [] ?_ ?_ ?_ <;> try trivial)
  | with_reducible intro h
  | ((with_reducible show _ /\ _); apply And.intro)
 all_goals first | rfl | simp
theorem c185 (x y : Node) : Ctr prog 185 [.agg ((encNode x).map .dat), .agg ((encNode y).map .dat)] [] (.one (.dat (.bool (decide (x = y))))) [] := by
 simp only [encNode, List.map_cons, List.map_nil]
 refine Ctr.bd aa func185 rfl ?_
 refine evl ?_
 repeat' first
  | ((with_reducible show Abs.Fin _ _ _ _ _ _); refine Fin.nt results185 [] ?_ ?_ ?_ <;> try trivial)
  | with_reducible intro h
  | ((with_reducible show _ /\ _); apply And.intro)
 all_goals try ((refine rsl ?_; try exact .intro))
 all_goals simp_all [Node.eq_iff]
structure LRow where
 Handle : Int
 Epoch : Int
 deriving DecidableEq
def encLRow (x : LRow) : List D := [.int .i64 x.Handle, .int .i64 x.Epoch]
def LRow.wf (x : LRow) : Prop := (Lit.int .i64 x.Handle).wf = true /\ (Lit.int .i64 x.Epoch).wf = true /\ True
theorem LRow.eq_iff (x y : LRow) : x = y ↔ x.Handle = y.Handle /\ x.Epoch = y.Epoch := by cases x; cases y; simp
theorem c340 (x : LRow) : Ctr prog 340 [.agg ((encLRow x).map .dat)] [] (.agg ((encLRow x).map .dat)) [] := by
 simp only [encLRow, List.map_cons, List.map_nil]
 refine Ctr.bd aa func340 rfl ?_
 refine evl ?_
 repeat' first
  | ((with_reducible show Abs.Fin _ _ _ _ _ _); refine Fin.nt results340 [] ?_ ?_ ?_ <;> try trivial)
  | with_reducible intro h
  | ((with_reducible show _ /\ _); apply And.intro)
 all_goals first | rfl | simp
theorem c292 (l : List LRow) (hl : l.length <= 1048576) : Ctr prog 292 [.one (.dat (.sl 2 (l.map encLRow)))] [] (.one (.own 0)) [.vec 2 true (l.map encLRow)] := by
 refine Ctr.bd aa func292 rfl ?_
 refine evl ?_
 refine ⟨by omega, ?_⟩
 refine ab (fun n s => ∃ i : Nat, i <= l.length /\ n = l.length - i /\ s = mkSt [(4, .one (.dat (.int .i64 i))), (3, .one (.own 0)), (0, .one (.dat (.sl 2 (l.map encLRow))))]
   [.vec 2 true ((l.take i).map encLRow ++ List.replicate (l.length - i) [.int .i64 0, .int .i64 0])]) l.length _
  (Ent.weak (ids := [0]) (by simp) rfl (by simp) ?_ ?_ ?_) ⟨0, by omega, by omega, rfl⟩ ?_
 ·simp [objsLe, St.obj, find, AObj.renF]
 ·simp [envLe, find, AV.renF, AV.renF1, Leaf.renF]
 ·simp [LowAll, AV.Low, AV.Low1, Leaf.Low, AObj.Low]
 rintro n s ⟨i, hi, rfl, rfl⟩ K hK
 refine evl ?_
 constructor <;> intro h
 ·have hlt : i < l.length := by simpa using h
  refine ⟨⟨by omega, by omega⟩, hlt, ?_⟩
  simp only [getD_map hlt, encLRow, List.map_cons, List.map_nil, List.take_succ_cons, List.take_zero]
  refine ae e340 (c340 l[i]) rfl ?_
  simp (maxSteps := 2000000) only [go_sem, seval, encLRow, D.flat, ah hlt (le20 hl)]
  refine ⟨by simp; omega, by simp; omega, ?_⟩
  apply hK
  refine ⟨l.length - (i + 1), _, by omega, Ent.weak (ids := [0]) (by simp) rfl (by simp) ?_ ?_ ?_, i + 1, by omega, rfl, rfl⟩
  ·simp only [objsLe, St.obj, find, AObj.renF, if_true, Option.getD_some, List.getD_cons_zero, and_true]
   rw [<- aS encLRow l _ hlt]
   exact ⟨Nat.zero_lt_one, Or.inr rfl⟩
  ·simp [envLe, find, AV.renF, AV.renF1, Leaf.renF]
  ·simp [LowAll, AV.Low, AV.Low1, Leaf.Low, AObj.Low]
 ·have hge : i = l.length := by simp at h; omega
  subst hge
  apply hK
  refine evl ?_
  refine Fin.nt results292 [0] ?_ ?_ ?_ <;> try trivial
  all_goals simp [objsLe, St.obj, find, AObj.renF]
theorem c283 (rows : List (List D)) (left : Int) (h0 : 0 <= left) (h1 : left <= 1048576) (hl : rows.length <= maxLen) : Ctr prog 283 [.one (.dat (.sl 2 rows)), .one (.dat (.int .i64 left))] [] (.one (.dat (.int .i64 (szL left rows.length)))) [] := by
 have hw := aT h0 h1 hl
 refine Ctr.bd aa func283 rfl ?_
 refine sv2 ?_
 repeat' first
  | ((with_reducible show Abs.Fin _ _ _ _ _ _); refine Fin.nt results283 [] ?_ ?_ ?_ <;> try trivial)
  | with_reducible intro h
  | ((with_reducible show _ /\ _); apply And.intro)
 all_goals try ((refine rsl ?_; try exact .intro))
 all_goals simp_all [szL]
 all_goals omega
theorem c330 (x y : LRow) : Ctr prog 330 [.agg ((encLRow x).map .dat), .agg ((encLRow y).map .dat)] [] (.one (.dat (.bool (decide (x = y))))) [] := by
 simp only [encLRow, List.map_cons, List.map_nil]
 refine Ctr.bd aa func330 rfl ?_
 refine evl ?_
 repeat' first
  | ((with_reducible show Abs.Fin _ _ _ _ _ _); refine Fin.nt results330 [] ?_ ?_ ?_ <;> try trivial)
  | with_reducible intro h
  | ((with_reducible show _ /\ _); apply And.intro)
 all_goals try ((refine rsl ?_; try exact .intro))
 all_goals simp_all [LRow.eq_iff]
theorem c275 (l l' : List LRow) (hl : l.length <= maxLen) (hl' : l'.length <= maxLen) : Ctr prog 275 [.one (.dat (.sl 2 (l.map encLRow))), .one (.dat (.sl 2 (l'.map encLRow)))] [] (.one (.dat (.bool (decide (l = l'))))) [] := by
 refine Ctr.bd aa func275 rfl ?_
 refine evl ?_
 constructor <;> intro h
 ·have hne : l.length ≠ l'.length := by simp at h; omega
  refine Fin.nt results275 [] ?_ ?_ ?_ <;> try trivial
  (refine rsl ?_; try exact .intro)
  symm; rw [decide_eq_false_iff_not]
  intro e; exact hne (by rw [e])
 have hlen : l.length = l'.length := by simp at h; omega
 refine ab (fun n s => ∃ i : Nat, i <= l.length /\ n = l.length - i /\ l.take i = l'.take i /\ s = mkSt [(5, .one (.dat (.int .i64 i))), (1, .one (.dat (.sl 2 (l'.map encLRow)))), (0, .one (.dat (.sl 2 (l.map encLRow))))] []) l.length _
  (Ent.weak (ids := []) (by simp) rfl (by simp) ?_ ?_ ?_) ⟨0, by omega, by omega, rfl, rfl⟩ ?_
 ·simp [objsLe, St.obj, find, AObj.renF]
 ·simp [envLe, find, AV.renF, AV.renF1, Leaf.renF]
 ·simp [LowAll, AV.Low, AV.Low1, Leaf.Low, AObj.Low]
 rintro n s ⟨i, hi, rfl, ht, rfl⟩ K hK
 refine evl ?_
 constructor <;> intro h
 ·have hlt : i < l.length := by simpa using h
  have hlt' : i < l'.length := by omega
  refine ⟨⟨by omega, by omega⟩, hlt, ⟨by omega, by omega⟩, hlt', ?_⟩
  simp only [getD_map hlt, getD_map hlt', encLRow, List.map_cons, List.map_nil, List.take_succ_cons, List.take_zero]
  first
   | refine aj e330 (fun _ => ⟨trivial, c330 l[i] l'[i]⟩) rfl rfl ?_
   | refine Or.inl (aj e330 (fun _ => ⟨trivial, c330 l[i] l'[i]⟩) rfl rfl ?_)
  refine sv0 ?_
  constructor <;> intro h
  ·apply hK
   refine evl ?_
   refine Fin.nt results275 [] ?_ ?_ ?_ <;> try trivial
   (refine rsl ?_; try exact .intro)
   symm; rw [decide_eq_false_iff_not]
   rintro rfl; simp at h
  ·apply hK
   have he : l[i] = l'[i] := by simpa using h
   refine ⟨l.length - (i + 1), _, by omega, Ent.weak (ids := []) (by simp) rfl (by simp) ?_ ?_ ?_, i + 1, by omega, rfl, ?_, rfl⟩
   ·simp [objsLe, St.obj, find, AObj.renF]
   ·simp [envLe, find, AV.renF, AV.renF1, Leaf.renF]
   ·simp [LowAll, AV.Low, AV.Low1, Leaf.Low, AObj.Low]
   ·rw [List.take_succ_eq_append_getElem hlt, List.take_succ_eq_append_getElem hlt', ht, he]
 ·have hge : i = l.length := by simp at h; omega
  subst hge
  apply hK
  refine evl ?_
  refine Fin.nt results275 [] ?_ ?_ ?_ <;> try trivial
  (refine rsl ?_; try exact .intro)
  symm; rw [decide_eq_true_iff]
  rw [List.take_of_length_le (Nat.le_refl _), List.take_of_length_le (by omega)] at ht
  exact ht
structure Pin where
 On : Bool
 Epoch : Int
 Marked : Bool
 Seen : Int
 deriving DecidableEq
def encPin (x : Pin) : List D := [.bool x.On, .int .i64 x.Epoch, .bool x.Marked, .int .i64 x.Seen]
def Pin.wf (x : Pin) : Prop := (Lit.int .i64 x.Epoch).wf = true /\ (Lit.int .i64 x.Seen).wf = true /\ True
theorem Pin.eq_iff (x y : Pin) : x = y ↔ x.On = y.On /\ x.Epoch = y.Epoch /\ x.Marked = y.Marked /\ x.Seen = y.Seen := by cases x; cases y; simp
theorem c291 (x : Pin) : Ctr prog 291 [.agg ((encPin x).map .dat)] [] (.agg ((encPin x).map .dat)) [] := by
 simp only [encPin, List.map_cons, List.map_nil]
 refine Ctr.bd aa func291 rfl ?_
 refine evl ?_
 repeat' first
  | ((with_reducible show Abs.Fin _ _ _ _ _ _); refine Fin.nt results291 [] ?_ ?_ ?_ <;> try trivial)
  | with_reducible intro h
  | ((with_reducible show _ /\ _); apply And.intro)
 all_goals first | rfl | simp
theorem c222 (l : List Pin) (hl : l.length <= 1048576) : Ctr prog 222 [.one (.dat (.sl 4 (l.map encPin)))] [] (.one (.own 0)) [.vec 4 true (l.map encPin)] := by
 refine Ctr.bd aa func222 rfl ?_
 refine evl ?_
 refine ⟨by omega, ?_⟩
 refine ab (fun n s => ∃ i : Nat, i <= l.length /\ n = l.length - i /\ s = mkSt [(4, .one (.dat (.int .i64 i))), (3, .one (.own 0)), (0, .one (.dat (.sl 4 (l.map encPin))))]
   [.vec 4 true ((l.take i).map encPin ++ List.replicate (l.length - i) [.bool false, .int .i64 0, .bool false, .int .i64 0])]) l.length _
  (Ent.weak (ids := [0]) (by simp) rfl (by simp) ?_ ?_ ?_) ⟨0, by omega, by omega, rfl⟩ ?_
 ·simp [objsLe, St.obj, find, AObj.renF]
 ·simp [envLe, find, AV.renF, AV.renF1, Leaf.renF]
 ·simp [LowAll, AV.Low, AV.Low1, Leaf.Low, AObj.Low]
 rintro n s ⟨i, hi, rfl, rfl⟩ K hK
 refine evl ?_
 constructor <;> intro h
 ·have hlt : i < l.length := by simpa using h
  refine ⟨⟨by omega, by omega⟩, hlt, ?_⟩
  simp only [getD_map hlt, encPin, List.map_cons, List.map_nil, List.take_succ_cons, List.take_zero]
  refine ae e291 (c291 l[i]) rfl ?_
  simp (maxSteps := 2000000) only [go_sem, seval, encPin, D.flat, ah hlt (le20 hl)]
  refine ⟨by simp; omega, by simp; omega, ?_⟩
  apply hK
  refine ⟨l.length - (i + 1), _, by omega, Ent.weak (ids := [0]) (by simp) rfl (by simp) ?_ ?_ ?_, i + 1, by omega, rfl, rfl⟩
  ·simp only [objsLe, St.obj, find, AObj.renF, if_true, Option.getD_some, List.getD_cons_zero, and_true]
   rw [<- aS encPin l _ hlt]
   exact ⟨Nat.zero_lt_one, Or.inr rfl⟩
  ·simp [envLe, find, AV.renF, AV.renF1, Leaf.renF]
  ·simp [LowAll, AV.Low, AV.Low1, Leaf.Low, AObj.Low]
 ·have hge : i = l.length := by simp at h; omega
  subst hge
  apply hK
  refine evl ?_
  refine Fin.nt results222 [0] ?_ ?_ ?_ <;> try trivial
  all_goals simp [objsLe, St.obj, find, AObj.renF]
theorem c201 (rows : List (List D)) (left : Int) (h0 : 0 <= left) (h1 : left <= 1048576) (hl : rows.length <= maxLen) : Ctr prog 201 [.one (.dat (.sl 4 rows)), .one (.dat (.int .i64 left))] [] (.one (.dat (.int .i64 (szL left rows.length)))) [] := by
 have hw := aT h0 h1 hl
 refine Ctr.bd aa func201 rfl ?_
 refine sv2 ?_
 repeat' first
  | ((with_reducible show Abs.Fin _ _ _ _ _ _); refine Fin.nt results201 [] ?_ ?_ ?_ <;> try trivial)
  | with_reducible intro h
  | ((with_reducible show _ /\ _); apply And.intro)
 all_goals try ((refine rsl ?_; try exact .intro))
 all_goals simp_all [szL]
 all_goals omega
theorem c274 (x y : Pin) : Ctr prog 274 [.agg ((encPin x).map .dat), .agg ((encPin y).map .dat)] [] (.one (.dat (.bool (decide (x = y))))) [] := by
 simp only [encPin, List.map_cons, List.map_nil]
 refine Ctr.bd aa func274 rfl ?_
 refine evl ?_
 repeat' first
  | ((with_reducible show Abs.Fin _ _ _ _ _ _); refine Fin.nt results274 [] ?_ ?_ ?_ <;> try trivial)
  | with_reducible intro h
  | ((with_reducible show _ /\ _); apply And.intro)
 all_goals try ((refine rsl ?_; try exact .intro))
 all_goals simp_all [Pin.eq_iff]
theorem c182 (l l' : List Pin) (hl : l.length <= maxLen) (hl' : l'.length <= maxLen) : Ctr prog 182 [.one (.dat (.sl 4 (l.map encPin))), .one (.dat (.sl 4 (l'.map encPin)))] [] (.one (.dat (.bool (decide (l = l'))))) [] := by
 refine Ctr.bd aa func182 rfl ?_
 refine evl ?_
 constructor <;> intro h
 ·have hne : l.length ≠ l'.length := by simp at h; omega
  refine Fin.nt results182 [] ?_ ?_ ?_ <;> try trivial
  (refine rsl ?_; try exact .intro)
  symm; rw [decide_eq_false_iff_not]
  intro e; exact hne (by rw [e])
 have hlen : l.length = l'.length := by simp at h; omega
 refine ab (fun n s => ∃ i : Nat, i <= l.length /\ n = l.length - i /\ l.take i = l'.take i /\ s = mkSt [(5, .one (.dat (.int .i64 i))), (1, .one (.dat (.sl 4 (l'.map encPin)))), (0, .one (.dat (.sl 4 (l.map encPin))))] []) l.length _
  (Ent.weak (ids := []) (by simp) rfl (by simp) ?_ ?_ ?_) ⟨0, by omega, by omega, rfl, rfl⟩ ?_
 ·simp [objsLe, St.obj, find, AObj.renF]
 ·simp [envLe, find, AV.renF, AV.renF1, Leaf.renF]
 ·simp [LowAll, AV.Low, AV.Low1, Leaf.Low, AObj.Low]
 rintro n s ⟨i, hi, rfl, ht, rfl⟩ K hK
 refine evl ?_
 constructor <;> intro h
 ·have hlt : i < l.length := by simpa using h
  have hlt' : i < l'.length := by omega
  refine ⟨⟨by omega, by omega⟩, hlt, ⟨by omega, by omega⟩, hlt', ?_⟩
  simp only [getD_map hlt, getD_map hlt', encPin, List.map_cons, List.map_nil, List.take_succ_cons, List.take_zero]
  first
   | refine aj e274 (fun _ => ⟨trivial, c274 l[i] l'[i]⟩) rfl rfl ?_
   | refine Or.inl (aj e274 (fun _ => ⟨trivial, c274 l[i] l'[i]⟩) rfl rfl ?_)
  refine sv0 ?_
  constructor <;> intro h
  ·apply hK
   refine evl ?_
   refine Fin.nt results182 [] ?_ ?_ ?_ <;> try trivial
   (refine rsl ?_; try exact .intro)
   symm; rw [decide_eq_false_iff_not]
   rintro rfl; simp at h
  ·apply hK
   have he : l[i] = l'[i] := by simpa using h
   refine ⟨l.length - (i + 1), _, by omega, Ent.weak (ids := []) (by simp) rfl (by simp) ?_ ?_ ?_, i + 1, by omega, rfl, ?_, rfl⟩
   ·simp [objsLe, St.obj, find, AObj.renF]
   ·simp [envLe, find, AV.renF, AV.renF1, Leaf.renF]
   ·simp [LowAll, AV.Low, AV.Low1, Leaf.Low, AObj.Low]
   ·rw [List.take_succ_eq_append_getElem hlt, List.take_succ_eq_append_getElem hlt', ht, he]
 ·have hge : i = l.length := by simp at h; omega
  subst hge
  apply hK
  refine evl ?_
  refine Fin.nt results182 [] ?_ ?_ ?_ <;> try trivial
  (refine rsl ?_; try exact .intro)
  symm; rw [decide_eq_true_iff]
  rw [List.take_of_length_le (Nat.le_refl _), List.take_of_length_le (by omega)] at ht
  exact ht
structure Res where
 Is : Bool
 Val : Int
 deriving DecidableEq
def encRes (x : Res) : List D := [.bool x.Is, .int .i64 x.Val]
def Res.wf (x : Res) : Prop := (Lit.int .i64 x.Val).wf = true /\ True
theorem Res.eq_iff (x y : Res) : x = y ↔ x.Is = y.Is /\ x.Val = y.Val := by cases x; cases y; simp
theorem c295 (x : Res) : Ctr prog 295 [.agg ((encRes x).map .dat)] [] (.agg ((encRes x).map .dat)) [] := by
 simp only [encRes, List.map_cons, List.map_nil]
 refine Ctr.bd aa func295 rfl ?_
 refine evl ?_
 repeat' first
  | ((with_reducible show Abs.Fin _ _ _ _ _ _); refine Fin.nt results295 [] ?_ ?_ ?_ <;> try trivial)
  | with_reducible intro h
  | ((with_reducible show _ /\ _); apply And.intro)
 all_goals first | rfl | simp
theorem c228 (l : List Res) (hl : l.length <= 1048576) : Ctr prog 228 [.one (.dat (.sl 2 (l.map encRes)))] [] (.one (.own 0)) [.vec 2 true (l.map encRes)] := by
 refine Ctr.bd aa func228 rfl ?_
 refine evl ?_
 refine ⟨by omega, ?_⟩
 refine ab (fun n s => ∃ i : Nat, i <= l.length /\ n = l.length - i /\ s = mkSt [(4, .one (.dat (.int .i64 i))), (3, .one (.own 0)), (0, .one (.dat (.sl 2 (l.map encRes))))]
   [.vec 2 true ((l.take i).map encRes ++ List.replicate (l.length - i) [.bool false, .int .i64 0])]) l.length _
  (Ent.weak (ids := [0]) (by simp) rfl (by simp) ?_ ?_ ?_) ⟨0, by omega, by omega, rfl⟩ ?_
 ·simp [objsLe, St.obj, find, AObj.renF]
 ·simp [envLe, find, AV.renF, AV.renF1, Leaf.renF]
 ·simp [LowAll, AV.Low, AV.Low1, Leaf.Low, AObj.Low]
 rintro n s ⟨i, hi, rfl, rfl⟩ K hK
 refine evl ?_
 constructor <;> intro h
 ·have hlt : i < l.length := by simpa using h
  refine ⟨⟨by omega, by omega⟩, hlt, ?_⟩
  simp only [getD_map hlt, encRes, List.map_cons, List.map_nil, List.take_succ_cons, List.take_zero]
  refine ae e295 (c295 l[i]) rfl ?_
  simp (maxSteps := 2000000) only [go_sem, seval, encRes, D.flat, ah hlt (le20 hl)]
  refine ⟨by simp; omega, by simp; omega, ?_⟩
  apply hK
  refine ⟨l.length - (i + 1), _, by omega, Ent.weak (ids := [0]) (by simp) rfl (by simp) ?_ ?_ ?_, i + 1, by omega, rfl, rfl⟩
  ·simp only [objsLe, St.obj, find, AObj.renF, if_true, Option.getD_some, List.getD_cons_zero, and_true]
   rw [<- aS encRes l _ hlt]
   exact ⟨Nat.zero_lt_one, Or.inr rfl⟩
  ·simp [envLe, find, AV.renF, AV.renF1, Leaf.renF]
  ·simp [LowAll, AV.Low, AV.Low1, Leaf.Low, AObj.Low]
 ·have hge : i = l.length := by simp at h; omega
  subst hge
  apply hK
  refine evl ?_
  refine Fin.nt results228 [0] ?_ ?_ ?_ <;> try trivial
  all_goals simp [objsLe, St.obj, find, AObj.renF]
theorem c205 (rows : List (List D)) (left : Int) (h0 : 0 <= left) (h1 : left <= 1048576) (hl : rows.length <= maxLen) : Ctr prog 205 [.one (.dat (.sl 2 rows)), .one (.dat (.int .i64 left))] [] (.one (.dat (.int .i64 (szL left rows.length)))) [] := by
 have hw := aT h0 h1 hl
 refine Ctr.bd aa func205 rfl ?_
 refine sv2 ?_
 repeat' first
  | ((with_reducible show Abs.Fin _ _ _ _ _ _); refine Fin.nt results205 [] ?_ ?_ ?_ <;> try trivial)
  | with_reducible intro h
  | ((with_reducible show _ /\ _); apply And.intro)
 all_goals try ((refine rsl ?_; try exact .intro))
 all_goals simp_all [szL]
 all_goals omega
theorem c278 (x y : Res) : Ctr prog 278 [.agg ((encRes x).map .dat), .agg ((encRes y).map .dat)] [] (.one (.dat (.bool (decide (x = y))))) [] := by
 simp only [encRes, List.map_cons, List.map_nil]
 refine Ctr.bd aa func278 rfl ?_
 refine evl ?_
 repeat' first
  | ((with_reducible show Abs.Fin _ _ _ _ _ _); refine Fin.nt results278 [] ?_ ?_ ?_ <;> try trivial)
  | with_reducible intro h
  | ((with_reducible show _ /\ _); apply And.intro)
 all_goals try ((refine rsl ?_; try exact .intro))
 all_goals simp_all [Res.eq_iff]
theorem c189 (l l' : List Res) (hl : l.length <= maxLen) (hl' : l'.length <= maxLen) : Ctr prog 189 [.one (.dat (.sl 2 (l.map encRes))), .one (.dat (.sl 2 (l'.map encRes)))] [] (.one (.dat (.bool (decide (l = l'))))) [] := by
 refine Ctr.bd aa func189 rfl ?_
 refine evl ?_
 constructor <;> intro h
 ·have hne : l.length ≠ l'.length := by simp at h; omega
  refine Fin.nt results189 [] ?_ ?_ ?_ <;> try trivial
  (refine rsl ?_; try exact .intro)
  symm; rw [decide_eq_false_iff_not]
  intro e; exact hne (by rw [e])
 have hlen : l.length = l'.length := by simp at h; omega
 refine ab (fun n s => ∃ i : Nat, i <= l.length /\ n = l.length - i /\ l.take i = l'.take i /\ s = mkSt [(5, .one (.dat (.int .i64 i))), (1, .one (.dat (.sl 2 (l'.map encRes)))), (0, .one (.dat (.sl 2 (l.map encRes))))] []) l.length _
  (Ent.weak (ids := []) (by simp) rfl (by simp) ?_ ?_ ?_) ⟨0, by omega, by omega, rfl, rfl⟩ ?_
 ·simp [objsLe, St.obj, find, AObj.renF]
 ·simp [envLe, find, AV.renF, AV.renF1, Leaf.renF]
 ·simp [LowAll, AV.Low, AV.Low1, Leaf.Low, AObj.Low]
 rintro n s ⟨i, hi, rfl, ht, rfl⟩ K hK
 refine evl ?_
 constructor <;> intro h
 ·have hlt : i < l.length := by simpa using h
  have hlt' : i < l'.length := by omega
  refine ⟨⟨by omega, by omega⟩, hlt, ⟨by omega, by omega⟩, hlt', ?_⟩
  simp only [getD_map hlt, getD_map hlt', encRes, List.map_cons, List.map_nil, List.take_succ_cons, List.take_zero]
  first
   | refine aj e278 (fun _ => ⟨trivial, c278 l[i] l'[i]⟩) rfl rfl ?_
   | refine Or.inl (aj e278 (fun _ => ⟨trivial, c278 l[i] l'[i]⟩) rfl rfl ?_)
  refine sv0 ?_
  constructor <;> intro h
  ·apply hK
   refine evl ?_
   refine Fin.nt results189 [] ?_ ?_ ?_ <;> try trivial
   (refine rsl ?_; try exact .intro)
   symm; rw [decide_eq_false_iff_not]
   rintro rfl; simp at h
  ·apply hK
   have he : l[i] = l'[i] := by simpa using h
   refine ⟨l.length - (i + 1), _, by omega, Ent.weak (ids := []) (by simp) rfl (by simp) ?_ ?_ ?_, i + 1, by omega, rfl, ?_, rfl⟩
   ·simp [objsLe, St.obj, find, AObj.renF]
   ·simp [envLe, find, AV.renF, AV.renF1, Leaf.renF]
   ·simp [LowAll, AV.Low, AV.Low1, Leaf.Low, AObj.Low]
   ·rw [List.take_succ_eq_append_getElem hlt, List.take_succ_eq_append_getElem hlt', ht, he]
 ·have hge : i = l.length := by simp at h; omega
  subst hge
  apply hK
  refine evl ?_
  refine Fin.nt results189 [] ?_ ?_ ?_ <;> try trivial
  (refine rsl ?_; try exact .intro)
  symm; rw [decide_eq_true_iff]
  rw [List.take_of_length_le (Nat.le_refl _), List.take_of_length_le (by omega)] at ht
  exact ht
end Go.Proofs.YtkmmgklnoagedaaGreat.Mod
