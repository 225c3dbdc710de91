import Derived.Test.YtkmmgklnoagedaaGreatRows
import Derived.Test.YtkmmgklnoagedaaGreatQATy
import Derived.Test.YtkmmgklnoagedaaGreatQAbsTac
import Derived.Test.YtkmmgklnoagedaaGreatQAbsData
import Derived.Test.YtkmmgklnoagedaaGreatQANum
import Derived.Test.YtkmmgklnoagedaaGreatQASl2
import Derived.WalkKit
import Derived.ProofKit
import Derived.OpenShut
/- Contracts: Map. -/
namespace Go.Proofs.YtkmmgklnoagedaaGreat.Mod
open Go.Proofs.Tryz Go.Abs Go.Proofs.YtkmmgklnoagedaaGreat.Ty Go.ChangeShapes Go.WideShapes Go.ChangeAt Go.RowKit
set_option linter.unusedSimpArgs false
set_option linter.unusedVariables false
set_option maxHeartbeats 8000000
set_option maxRecDepth 100000
def mapGood (l : List KV) (i : Nat) : Bool := within (l.getD i ⟨0, 0⟩).Key 0 99 && within (l.getD i ⟨0, 0⟩).Val 0 65535 && (i == 0 || decide ((l.getD (i - 1) ⟨0, 0⟩).Key < (l.getD i ⟨0, 0⟩).Key))
def mapOk (l : List KV) : Bool := (List.range l.length).all (mapGood l)
theorem gi {l : List KV} (h : ∀ j, j < l.length -> mapGood l j = true) : mapOk l = true := by simpa [mapOk] using h
theorem fe {l : List KV} {i : Nat} (h : i < l.length) (hb : mapGood l i = false) : mapOk l = false := by
 cases e : mapOk l
 ·rfl
 ·simp [mapOk] at e
  simp [e i h] at hb
theorem cu {l : List KV} {i : Nat} (hlt : i < l.length) (h1 : i - 1 < l.length) : mapGood l i =
  !(bif (bif !within l[i].Key 0 99 then true else !within l[i].Val 0 65535) then true else bif decide ((0 : Int) < i) then decide (l[i].Key <= l[i - 1].Key) else false) := by
 unfold mapGood
 rw [List.getD_eq_getElem?_getD, List.getD_eq_getElem?_getD, List.getElem?_eq_getElem hlt, List.getElem?_eq_getElem h1, Option.getD_some, Option.getD_some]
 by_cases h : i = 0
 ·subst h; simp
 ·have h' : 0 < i := by omega
  have e : decide (l[i - 1].Key < l[i].Key) = !decide (l[i].Key <= l[i - 1].Key) := by
   by_cases hh : l[i].Key <= l[i - 1].Key
   ·simp [hh]
   ·simp [hh]; omega
  rw [e]
  cases within l[i].Key 0 99 <;> cases within l[i].Val 0 65535 <;> simp [h, h']
theorem c341 (l : List KV) (hl : l.length <= maxLen) : Ctr prog 341 [.one (.dat (.sl 2 (l.map encKV)))] [] (.one (.dat (.bool (mapOk l)))) [] := by
 refine Ctr.bd aa func341 rfl ?_
 refine evl ?_
 refine ab (fun n s => ∃ i : Nat, i <= l.length /\ n = l.length - i /\ (∀ j, j < i -> mapGood l j = true) /\ s = mkSt [(7, .one (.dat (.int .i64 i))), (6, .one (.dat (.int .i64 l.length))), (5, .one (.dat (.sl 2 (l.map encKV)))), (0, .one (.dat (.sl 2 (l.map encKV))))] []) l.length _
  (Ent.weak (ids := []) (by simp) rfl (by simp) ?_ ?_ ?_) ⟨0, by omega, by omega, by simp, rfl⟩ ?_
 ·simp [objsLe, St.obj, find, AObj.renF]
 ·simp [envLe, find, AV.renF, AV.renF1, Leaf.renF]
 ·simp [LowAll, AV.Low, AV.Low1, Leaf.Low, AObj.Low]
 rintro n s ⟨i, hi, rfl, ht, rfl⟩ K hK
 refine evl ?_
 constructor <;> intro h
 ·have hlt : i < l.length := by simpa using h
  refine ⟨⟨by omega, by omega⟩, hlt, ?_⟩
  simp only [getD_map hlt, encKV, List.getD_cons_zero, List.getD_cons_succ, List.map_cons, List.map_nil, List.take_succ_cons, List.take_zero]
  have hlt1 : i - 1 < l.length := by omega
  repeat' first
  | ((with_reducible show Abs.Fin _ _ _ _ _ _); refine Fin.nt results341 [] ?_ ?_ ?_ <;> try trivial)
  | ((first | refine af e151 (c151 ..) rfl rfl ?_ | refine ag e151 (c151 ..) rfl rfl ?_ | refine ck e151 (c151 ..) rfl ?_); simp (maxSteps := 2000000) only [go_sem, seval, getD_map hlt, encKV, ct hlt hl, getD_map hlt1, ah hlt hl])
  | with_reducible intro h
  | ((with_reducible show _ /\ _); apply And.intro)
  all_goals try (first | assumption | exact True.intro | omega | (clear hK; simp_all; done))
  all_goals try (rw [cU hlt hl]; clear hK; simp at *; omega)
  ·apply hK
   refine evl ?_
   refine Fin.nt results341 [] ?_ ?_ ?_ <;> try trivial
   (refine rsl ?_; try exact .intro)
   exact (fe hlt (by rw [cu hlt hlt1, h]; rfl)).symm
  ·apply hK
   refine ⟨l.length - (i + 1), _, by omega, Ent.wk [], i + 1, by omega, rfl, fun j hj => ?_, rfl⟩
   by_cases e : j = i
   ·subst e; rw [cu hlt hlt1, h]; rfl
   ·exact ht j (by omega)
 ·have hge : i = l.length := by simp at h; omega
  subst hge
  apply hK
  refine evl ?_
  refine Fin.nt results341 [] ?_ ?_ ?_ <;> try trivial
  (refine rsl ?_; try exact .intro)
  exact (gi ht).symm
theorem c332 (l : List KV) (hl : l.length <= maxLen) : Ctr prog 332 [.one (.dat (.sl 2 (l.map encKV)))] [] (.one (.dat (.bool (mapOk l)))) [] := by
 refine Ctr.bd aa func332 rfl ?_
 refine evl ?_
 refine ab (fun n s => ∃ i : Nat, i <= l.length /\ n = l.length - i /\ (∀ j, j < i -> mapGood l j = true) /\ s = mkSt [(3, .one (.dat (.int .i64 i))), (0, .one (.dat (.sl 2 (l.map encKV))))] []) l.length _
  (Ent.weak (ids := []) (by simp) rfl (by simp) ?_ ?_ ?_) ⟨0, by omega, by omega, by simp, rfl⟩ ?_
 ·simp [objsLe, St.obj, find, AObj.renF]
 ·simp [envLe, find, AV.renF, AV.renF1, Leaf.renF]
 ·simp [LowAll, AV.Low, AV.Low1, Leaf.Low, AObj.Low]
 rintro n s ⟨i, hi, rfl, ht, rfl⟩ K hK
 refine evl ?_
 constructor <;> intro h
 ·have hlt : i < l.length := by simpa using h
  refine ⟨⟨by omega, by omega⟩, hlt, ?_⟩
  simp only [getD_map hlt, encKV, List.getD_cons_zero, List.getD_cons_succ]
  have hlt1 : i - 1 < l.length := by omega
  repeat' first
  | ((with_reducible show Abs.Fin _ _ _ _ _ _); refine Fin.nt results332 [] ?_ ?_ ?_ <;> try trivial)
  | ((first | refine af e126 (c126 ..) rfl rfl ?_ | refine ag e126 (c126 ..) rfl rfl ?_ | refine ck e126 (c126 ..) rfl ?_); simp (maxSteps := 2000000) only [go_sem, seval, getD_map hlt, encKV, ct hlt hl, getD_map hlt1, ah hlt hl])
  | with_reducible intro h
  | ((with_reducible show _ /\ _); apply And.intro)
  all_goals try (first | assumption | exact True.intro | omega | (clear hK; simp_all; done))
  all_goals try (rw [cU hlt hl]; clear hK; simp at *; omega)
  ·apply hK
   refine evl ?_
   refine Fin.nt results332 [] ?_ ?_ ?_ <;> try trivial
   (refine rsl ?_; try exact .intro)
   exact (fe hlt (by rw [cu hlt hlt1, h]; rfl)).symm
  ·apply hK
   refine ⟨l.length - (i + 1), _, by omega, Ent.wk [], i + 1, by omega, rfl, fun j hj => ?_, rfl⟩
   by_cases e : j = i
   ·subst e; rw [cu hlt hlt1, h]; rfl
   ·exact ht j (by omega)
 ·have hge : i = l.length := by simp at h; omega
  subst hge
  apply hK
  refine evl ?_
  refine Fin.nt results332 [] ?_ ?_ ?_ <;> try trivial
  (refine rsl ?_; try exact .intro)
  exact (gi ht).symm
def mapGet (key : Int) : List KV -> Int × Bool
 | [] => (0, false)
 | x :: l => if x.Key = key then (x.Val, true) else mapGet key l
theorem c342 (l : List KV) (hl : l.length <= maxLen) (key : Int) : Ctr prog 342 [.one (.dat (.sl 2 (l.map encKV))), .one (.dat (.int .i64 key))] [] (.tup [.one (.dat (.int .i64 (mapGet key l).1)), .one (.dat (.bool (mapGet key l).2))]) [] := by
 refine Ctr.bd aa func342 rfl ?_
 refine evl ?_
 refine ab (fun n s => ∃ i : Nat, i <= l.length /\ n = l.length - i /\ mapGet key l = mapGet key (l.drop i) /\ s = mkSt [(10, .one (.dat (.int .i64 i))), (9, .one (.dat (.int .i64 l.length))), (8, .one (.dat (.sl 2 (l.map encKV)))), (1, .one (.dat (.int .i64 key))), (0, .one (.dat (.sl 2 (l.map encKV))))] []) l.length _
  (Ent.wk []) ⟨0, by omega, by omega, by simp, rfl⟩ ?_
 rintro n s ⟨i, hi, rfl, ht, rfl⟩ K hK
 refine evl ?_
 constructor <;> intro h
 ·have hlt : i < l.length := by simpa using h
  rw [List.drop_eq_getElem_cons hlt, mapGet] at ht
  refine ⟨⟨by omega, by omega⟩, hlt, ?_⟩
  simp only [getD_map hlt, encKV, List.getD_cons_zero, List.getD_cons_succ, List.map_cons, List.map_nil, List.take_succ_cons, List.take_zero]
  simp (maxSteps := 2000000) only [go_sem, seval, getD_map hlt, encKV, ah hlt hl]
  repeat' first
  | ((with_reducible show Abs.Fin _ _ _ _ _ _); refine Fin.nt results342 [] ?_ ?_ ?_ <;> try trivial)
  | with_reducible intro h
  | ((with_reducible show _ /\ _); apply And.intro)
  all_goals try (first | assumption | exact True.intro | omega | (clear hK; simp_all; done))
  ·apply hK
   have h' : l[i].Key = key := by simpa using h
   rw [if_pos h'] at ht
   refine evl ?_
   refine Fin.nt results342 [] ?_ ?_ ?_ <;> try trivial
   (refine rsl ?_; try exact .intro)
   rw [ht]; exact ⟨rfl, rfl⟩
  ·apply hK
   have h' : ¬ l[i].Key = key := by simpa using h
   rw [if_neg h'] at ht
   exact ⟨l.length - (i + 1), _, by omega, Ent.wk [], i + 1, by omega, rfl, ht, rfl⟩
 ·have hge : i = l.length := by simp at h; omega
  subst hge
  rw [List.drop_length, mapGet] at ht
  apply hK
  refine evl ?_
  refine Fin.nt results342 [] ?_ ?_ ?_ <;> try trivial
  (refine rsl ?_; try exact .intro)
  rw [ht]; exact ⟨rfl, rfl⟩
theorem c333 (l : List KV) (hl : l.length <= maxLen) (key : Int) : Ctr prog 333 [.one (.dat (.sl 2 (l.map encKV))), .one (.dat (.int .i64 key))] [] (.tup [.one (.dat (.int .i64 (mapGet key l).1)), .one (.dat (.bool (mapGet key l).2))]) [] := by
 refine Ctr.bd aa func333 rfl ?_
 refine evl ?_
 refine ab (fun n s => ∃ i : Nat, i <= l.length /\ n = l.length - i /\ mapGet key l = mapGet key (l.drop i) /\ s = mkSt [(6, .one (.dat (.int .i64 i))), (1, .one (.dat (.int .i64 key))), (0, .one (.dat (.sl 2 (l.map encKV))))] []) l.length _
  (Ent.wk []) ⟨0, by omega, by omega, by simp, rfl⟩ ?_
 rintro n s ⟨i, hi, rfl, ht, rfl⟩ K hK
 refine evl ?_
 constructor <;> intro h
 ·have hlt : i < l.length := by simpa using h
  rw [List.drop_eq_getElem_cons hlt, mapGet] at ht
  refine ⟨⟨by omega, by omega⟩, hlt, ?_⟩
  simp only [getD_map hlt, encKV, List.getD_cons_zero, List.getD_cons_succ, List.map_cons, List.map_nil, List.take_succ_cons, List.take_zero]
  simp (maxSteps := 2000000) only [go_sem, seval, getD_map hlt, encKV, ah hlt hl]
  repeat' first
  | ((with_reducible show Abs.Fin _ _ _ _ _ _); refine Fin.nt results333 [] ?_ ?_ ?_ <;> try trivial)
  | with_reducible intro h
  | ((with_reducible show _ /\ _); apply And.intro)
  all_goals try (first | assumption | exact True.intro | omega | (clear hK; simp_all; done))
  ·apply hK
   have h' : l[i].Key = key := by simpa using h
   rw [if_pos h'] at ht
   refine evl ?_
   refine Fin.nt results333 [] ?_ ?_ ?_ <;> try trivial
   (refine rsl ?_; try exact .intro)
   rw [ht]; exact ⟨rfl, rfl⟩
  ·apply hK
   have h' : ¬ l[i].Key = key := by simpa using h
   rw [if_neg h'] at ht
   exact ⟨l.length - (i + 1), _, by omega, Ent.wk [], i + 1, by omega, rfl, ht, rfl⟩
 ·have hge : i = l.length := by simp at h; omega
  subst hge
  rw [List.drop_length, mapGet] at ht
  apply hK
  refine evl ?_
  refine Fin.nt results333 [] ?_ ?_ ?_ <;> try trivial
  (refine rsl ?_; try exact .intro)
  rw [ht]; exact ⟨rfl, rfl⟩
theorem c55 (l l' : List KV) (hl : l.length <= maxLen) (hl' : l'.length <= maxLen) : Ctr prog 55 [.one (.dat (.sl 2 (l.map encKV))), .one (.dat (.sl 2 (l'.map encKV)))] [] (.one (.dat (.bool (decide (l = l'))))) [] := by
 refine Ctr.bd aa func55 rfl ?_
 refine evl ?_
 constructor <;> intro h
 ·have hne : l.length ≠ l'.length := by simp at h; omega
  refine Fin.nt results55 [] ?_ ?_ ?_ <;> try trivial
  (refine rsl ?_; try exact .intro)
  symm; rw [decide_eq_false_iff_not]
  intro e; exact hne (by rw [e])
 have hlen : l.length = l'.length := by simp at h; omega
 refine ab (fun n s => ∃ i : Nat, i <= l.length /\ n = l.length - i /\ l.take i = l'.take i /\ s = mkSt [(5, .one (.dat (.int .i64 i))), (1, .one (.dat (.sl 2 (l'.map encKV)))), (0, .one (.dat (.sl 2 (l.map encKV))))] []) l.length _
  (Ent.wk []) ⟨0, by omega, by omega, rfl, rfl⟩ ?_
 rintro n s ⟨i, hi, rfl, ht, rfl⟩ K hK
 refine evl ?_
 constructor <;> intro h
 ·have hlt : i < l.length := by simpa using h
  have hlt' : i < l'.length := by omega
  simp only [getD_map hlt, getD_map hlt', encKV, List.map_cons, List.map_nil, List.take_succ_cons, List.take_zero]
  refine sv0 ?_
  repeat' first
   | with_reducible intro h
   | ((with_reducible show _ /\ _); apply And.intro)
  all_goals try (first | assumption | exact True.intro | omega | (clear hK; simp_all; done))
  ·apply hK
   refine evl ?_
   refine Fin.nt results55 [] ?_ ?_ ?_ <;> try trivial
   (refine rsl ?_; try exact .intro)
   symm; rw [decide_eq_false_iff_not]
   rintro rfl; simp at h
  ·apply hK
   have he : l[i] = l'[i] := by rw [KV.eq_iff]; simpa using h
   refine ⟨l.length - (i + 1), _, by omega, Ent.wk [], i + 1, by omega, rfl, ?_, rfl⟩
   rw [List.take_succ_eq_append_getElem hlt, List.take_succ_eq_append_getElem hlt', ht, he]
 ·have hge : i = l.length := by simp at h; omega
  subst hge
  apply hK
  refine evl ?_
  refine Fin.nt results55 [] ?_ ?_ ?_ <;> try trivial
  (refine rsl ?_; try exact .intro)
  symm; rw [decide_eq_true_iff]
  rw [List.take_of_length_le (Nat.le_refl _), List.take_of_length_le (by omega)] at ht
  exact ht
theorem c152 (l l' : List KV) (hl : l.length <= maxLen) (hl' : l'.length <= maxLen) : Ctr prog 152 [.one (.dat (.sl 2 (l.map encKV))), .one (.dat (.sl 2 (l'.map encKV)))] [] (.one (.dat (.bool (decide (l = l'))))) [] := by
 refine Ctr.bd aa func152 rfl ?_
 refine evl ?_
 constructor <;> intro h
 ·have hne : l.length ≠ l'.length := by simp at h; omega
  refine Fin.nt results152 [] ?_ ?_ ?_ <;> try trivial
  (refine rsl ?_; try exact .intro)
  symm; rw [decide_eq_false_iff_not]
  intro e; exact hne (by rw [e])
 have hlen : l.length = l'.length := by simp at h; omega
 refine ab (fun n s => ∃ i : Nat, i <= l.length /\ n = l.length - i /\ l.take i = l'.take i /\ s = mkSt [(13, .one (.dat (.int .i64 i))), (12, .one (.dat (.int .i64 l.length))), (1, .one (.dat (.sl 2 (l'.map encKV)))), (0, .one (.dat (.sl 2 (l.map encKV))))] []) l.length _
  (Ent.wk []) ⟨0, by omega, by omega, rfl, rfl⟩ ?_
 rintro n s ⟨i, hi, rfl, ht, rfl⟩ K hK
 refine evl ?_
 constructor <;> intro h
 ·have hlt : i < l.length := by simpa using h
  have hlt' : i < l'.length := by omega
  simp only [getD_map hlt, getD_map hlt', encKV, List.map_cons, List.map_nil, List.take_succ_cons, List.take_zero]
  refine sv0 ?_
  repeat' first
   | with_reducible intro h
   | ((with_reducible show _ /\ _); apply And.intro)
  all_goals try (first | assumption | exact True.intro | omega | (clear hK; simp_all; done))
  ·apply hK
   refine evl ?_
   refine Fin.nt results152 [] ?_ ?_ ?_ <;> try trivial
   (refine rsl ?_; try exact .intro)
   symm; rw [decide_eq_false_iff_not]
   rintro rfl; simp at h
  ·apply hK
   have he : l[i] = l'[i] := by rw [KV.eq_iff]; simpa using h
   refine ⟨l.length - (i + 1), _, by omega, Ent.wk [], i + 1, by omega, rfl, ?_, rfl⟩
   rw [List.take_succ_eq_append_getElem hlt, List.take_succ_eq_append_getElem hlt', ht, he]
 ·have hge : i = l.length := by simp at h; omega
  subst hge
  apply hK
  refine evl ?_
  refine Fin.nt results152 [] ?_ ?_ ?_ <;> try trivial
  (refine rsl ?_; try exact .intro)
  symm; rw [decide_eq_true_iff]
  rw [List.take_of_length_le (Nat.le_refl _), List.take_of_length_le (by omega)] at ht
  exact ht
theorem c64 (l l' : List KV) (hl : l.length <= maxLen) (hl' : l'.length <= maxLen) : Ctr prog 64 [.one (.dat (.sl 2 (l.map encKV))), .one (.dat (.sl 2 (l'.map encKV)))] [] (.one (.dat (.bool (decide (l = l'))))) [] := by
 refine Ctr.bd aa func64 rfl ?_
 refine evl ?_
 refine ae e152 (c152 l l' hl hl') rfl ?_
 refine evl ?_
 refine Fin.nt results64 [] ?_ ?_ ?_ <;> try trivial
def mapDel (l : List KV) (key : Int) : List KV := l.filter fun x => !(x.Key == key)
theorem bU (l : List KV) (key : Int) : (mapDel l key).length <= l.length := List.length_filter_le ..
theorem bJ {l : List KV} {key : Int} {i : Nat} (hi : i < l.length) : mapDel (l.take (i + 1)) key = if l[i].Key == key then mapDel (l.take i) key else mapDel (l.take i) key ++ [l[i]] := by
 unfold mapDel
 rw [List.take_succ_eq_append_getElem hi, List.filter_append, List.filter_cons]
 cases l[i].Key == key <;> simp
theorem c268 (x : KV) (key : Int) : Ctr prog 268 [.agg ((encKV x).map .dat), .one (.ptr (.ro 1 [[.int .i64 key]] 0 0))] [] (.one (.dat (.bool (x.Key == key)))) [] := by
 simp only [encKV, List.map_cons, List.map_nil]
 refine Ctr.bd aa func268 rfl ?_
 refine evl ?_
 refine Fin.nt results268 [] ?_ ?_ ?_ <;> try trivial
theorem c162 (l : List KV) (hl : l.length <= 16777216) (key : Int) : Ctr prog 162 [.one (.dat (.sl 2 (l.map encKV))), .one (.dat (.int .i64 key))] [] (.one (.own 0)) [.vec 2 true ((mapDel l key).map encKV)] := by
 refine Ctr.bd aa func162 rfl ?_
 refine evl ?_
 refine ae e267 (c267 l hl) rfl ?_
 refine evl ?_
 refine cJ [1] e266 (by simp [osOk, St.obj, find]) (c266 l hl e268 (fun x => c268 x key)) rfl ?_
 refine evl ?_
 refine Fin.nt results162 [2] ?_ ?_ ?_ <;> try trivial
 all_goals (simp [objsLe, envLe, find, St.obj, AObj.renF, AV.renF, AV.renF1, Leaf.renF, LowAll, AV.Low, AV.Low1, Leaf.Low, AObj.Low, Ptr.renF, Ptr.Low]; try rfl)
theorem c334 (l : List KV) (hl : l.length <= 16777216) (key : Int) : Ctr prog 334 [.one (.dat (.sl 2 (l.map encKV))), .one (.dat (.int .i64 key))] [] (.one (.own 0)) [.vec 2 true ((mapDel l key).map encKV)] := by
 have hl' : l.length <= maxLen := Nat.le_trans hl (by decide)
 refine Ctr.bd aa func334 rfl ?_
 refine evl ?_
 refine ⟨by simp, ?_⟩
 refine ab (fun n s => ∃ i : Nat, i <= l.length /\ n = l.length - i /\ s = mkSt [(6, .one (.dat (.int .i64 i))), (5, .one (.own 0)), (1, .one (.dat (.int .i64 key))), (0, .one (.dat (.sl 2 (l.map encKV))))] [.vec 2 true ((mapDel (l.take i) key).map encKV)]) l.length _
  (Ent.weak (ids := [0]) (by simp) rfl (by simp) (by simp [objsLe, envLe, find, St.obj, AObj.renF, AV.renF, AV.renF1, Leaf.renF, LowAll, AV.Low, AV.Low1, Leaf.Low, AObj.Low, Ptr.renF, Ptr.Low]; try simp [mapDel]) (by simp [objsLe, envLe, find, St.obj, AObj.renF, AV.renF, AV.renF1, Leaf.renF, LowAll, AV.Low, AV.Low1, Leaf.Low, AObj.Low, Ptr.renF, Ptr.Low]) (by simp [objsLe, envLe, find, St.obj, AObj.renF, AV.renF, AV.renF1, Leaf.renF, LowAll, AV.Low, AV.Low1, Leaf.Low, AObj.Low, Ptr.renF, Ptr.Low])) ⟨0, by omega, by omega, rfl⟩ ?_
 rintro n s ⟨i, hi, rfl, rfl⟩ K hK
 have hm := bU (l.take i) key
 rw [List.length_take, Nat.min_eq_left hi] at hm
 refine evl ?_
 constructor <;> intro h
 ·have hlt : i < l.length := by simpa using h
  have hw := ah hlt hl'
  have hstep := bJ (key := key) hlt
  refine ⟨⟨by omega, by omega⟩, hlt, ?_⟩
  simp (maxSteps := 2000000) only [go_sem, seval, hw, getD_map hlt, encKV]
  constructor <;> intro h
  ·refine ⟨⟨by omega, by omega⟩, hlt, ⟨by simp [D.flat], by simp⟩, ⟨by simp [D.flat], by simp, by omega, by omega⟩, ?_⟩
   rw [if_neg (by simpa [bne] using h)] at hstep
   apply hK
   refine ⟨l.length - (i + 1), _, by omega, Ent.weak (ids := [2]) (by simp) rfl (by simp) (by rw [hstep]; simp [objsLe, envLe, find, St.obj, AObj.renF, AV.renF, AV.renF1, Leaf.renF, LowAll, AV.Low, AV.Low1, Leaf.Low, AObj.Low, Ptr.renF, Ptr.Low]; try rfl) (by simp [objsLe, envLe, find, St.obj, AObj.renF, AV.renF, AV.renF1, Leaf.renF, LowAll, AV.Low, AV.Low1, Leaf.Low, AObj.Low, Ptr.renF, Ptr.Low]) (by simp [objsLe, envLe, find, St.obj, AObj.renF, AV.renF, AV.renF1, Leaf.renF, LowAll, AV.Low, AV.Low1, Leaf.Low, AObj.Low, Ptr.renF, Ptr.Low]), i + 1, by omega, rfl, rfl⟩
  ·rw [if_pos (by simpa [bne] using h)] at hstep
   apply hK
   refine ⟨l.length - (i + 1), _, by omega, Ent.weak (ids := [0]) (by simp) rfl (by simp) (by rw [hstep]; simp [objsLe, envLe, find, St.obj, AObj.renF, AV.renF, AV.renF1, Leaf.renF, LowAll, AV.Low, AV.Low1, Leaf.Low, AObj.Low, Ptr.renF, Ptr.Low]; try rfl) (by simp [objsLe, envLe, find, St.obj, AObj.renF, AV.renF, AV.renF1, Leaf.renF, LowAll, AV.Low, AV.Low1, Leaf.Low, AObj.Low, Ptr.renF, Ptr.Low]) (by simp [objsLe, envLe, find, St.obj, AObj.renF, AV.renF, AV.renF1, Leaf.renF, LowAll, AV.Low, AV.Low1, Leaf.Low, AObj.Low, Ptr.renF, Ptr.Low]), i + 1, by omega, rfl, rfl⟩
 ·have hge : i = l.length := by simp at h; omega
  subst hge
  apply hK
  rw [List.take_length]
  refine evl ?_
  refine Fin.nt results334 [0] ?_ ?_ ?_ <;> try trivial
  all_goals exact entd
def insF {α : Type} (p : α -> Bool) (y : α) : List α -> List α
 | [] => [y]
 | a :: m => if p a then y :: a :: m else a :: insF p y m
theorem insF_len {α : Type} (p : α -> Bool) (y : α) : ∀ m : List α, (insF p y m).length = m.length + 1
 | [] => rfl
 | a :: m => by
  unfold insF
  split
  ·simp
  ·simp [insF_len p y m]
theorem insF_not {α : Type} {p : α -> Bool} {y : α} : ∀ {m : List α}, m.any p = false -> insF p y m = m ++ [y]
 | [], _ => rfl
 | a :: m, h => by
  simp only [List.any_cons, Bool.or_eq_false_iff] at h
  unfold insF
  rw [h.1, insF_not h.2]
  rfl
theorem jj {α : Type} {p : α -> Bool} {y x : α} : ∀ {m : List α}, m.any p = true -> insF p y (m ++ [x]) = insF p y m ++ [x]
 | [], h => by simp at h
 | a :: m, h => by
  rw [List.cons_append]
  unfold insF
  cases ha : p a with
  | true => simp
  | false =>
   simp only [List.any_cons, ha, Bool.false_or] at h
   simp [jj h]
theorem jk {α : Type} {p : α -> Bool} {y x : α} (hx : p x = true) : ∀ {m : List α}, m.any p = false -> insF p y (m ++ [x]) = m ++ [y, x]
 | [], _ => by simp [insF, hx]
 | a :: m, h => by
  simp only [List.any_cons, Bool.or_eq_false_iff] at h
  rw [List.cons_append]
  unfold insF
  rw [h.1, jk hx h.2]
  simp
theorem nh {α : Type} {p : α -> Bool} {y : α} {m : List α} (h : ∀ j (hj : j < m.length), p m[j] = false) : m.take m.length ++ y :: m.drop m.length = insF p y m := by
 rw [insF_not]
 ·simp
 ·rw [List.any_eq_false]
  intro x hx
  obtain ⟨j, hj, rfl⟩ := List.getElem_of_mem hx
  simp [h j hj]
theorem kl {α : Type} {p : α -> Bool} {y : α} : ∀ {m : List α} {i : Nat} (hi : i < m.length), p m[i] = true -> (∀ j (hj : j < m.length), j < i -> p m[j] = false) -> m.take i ++ y :: m.drop i = insF p y m
 | [], i, hi, _, _ => by simp at hi
 | a :: m, 0, _, hp, _ => by
  have hp' : p a = true := hp
  simp [insF, hp']
 | a :: m, i + 1, hi, hp, h => by
  have h0 : p a = false := h 0 (by simp) (by omega)
  have := kl (p := p) (y := y) (m := m) (i := i) (by simpa using hi) (by simpa using hp) (fun j hj hji => h (j + 1) (by simpa using hj) (by omega))
  unfold insF
  rw [h0]
  simp only [List.take_succ_cons, List.drop_succ_cons, List.cons_append, Bool.false_eq_true, if_false]
  rw [this]
def mapPut (l : List KV) (key : Int) (val : Int) : List KV := insF (fun x : KV => decide (key < x.Key)) ⟨key, val⟩ (mapDel l key)
theorem bV (l : List KV) (key : Int) (val : Int) : (mapPut l key val).length <= l.length + 1 := by
 unfold mapPut
 rw [insF_len]
 have := bU l key
 omega
def mapPutPre (l : List KV) (key : Int) (val : Int) : List KV := if (mapDel l key).any (fun x : KV => decide (key < x.Key)) then mapPut l key val else mapDel l key
theorem ir (l : List KV) (key : Int) (val : Int) : (mapPutPre l key val).length <= l.length + 1 := by
 unfold mapPutPre
 have h1 := bV l key val
 have h2 := bU l key
 split <;> omega
theorem j0 {l : List KV} {key : Int} {val : Int} {i : Nat} (hi : i < l.length) (h : (l[i].Key == key) = true) : mapPutPre (l.take (i + 1)) key val = mapPutPre (l.take i) key val /\ (mapDel (l.take (i + 1)) key).any (fun x : KV => decide (key < x.Key)) = (mapDel (l.take i) key).any (fun x : KV => decide (key < x.Key)) := by
 unfold mapPutPre mapPut
 rw [bJ hi, if_pos h]
 exact ⟨rfl, rfl⟩
theorem lc {l : List KV} {key : Int} {val : Int} {i : Nat} (hi : i < l.length) (h : (l[i].Key == key) = false) (hd : (mapDel (l.take i) key).any (fun x : KV => decide (key < x.Key)) = true) : mapPutPre (l.take (i + 1)) key val = mapPutPre (l.take i) key val ++ [l[i]] /\ (mapDel (l.take (i + 1)) key).any (fun x : KV => decide (key < x.Key)) = true := by
 unfold mapPutPre mapPut
 have hs := bJ (key := key) hi
 rw [if_neg (by simp [h])] at hs
 rw [hs, hd, List.any_append, hd, jj hd]
 simp
theorem ld {l : List KV} {key : Int} {val : Int} {i : Nat} (hi : i < l.length) (h : (l[i].Key == key) = false) (hd : (mapDel (l.take i) key).any (fun x : KV => decide (key < x.Key)) = false) (hx : key < l[i].Key) : mapPutPre (l.take (i + 1)) key val = mapPutPre (l.take i) key val ++ [⟨key, val⟩] ++ [l[i]] /\ (mapDel (l.take (i + 1)) key).any (fun x : KV => decide (key < x.Key)) = true := by
 have hx' : (fun x : KV => decide (key < x.Key)) l[i] = true := by simpa using hx
 unfold mapPutPre mapPut
 have hs := bJ (key := key) hi
 rw [if_neg (by simp [h])] at hs
 rw [hs, hd, List.any_append, hd, jk (p := (fun x : KV => decide (key < x.Key))) hx' hd]
 simp [hx]
theorem lg {l : List KV} {key : Int} {val : Int} {i : Nat} (hi : i < l.length) (h : (l[i].Key == key) = false) (hd : (mapDel (l.take i) key).any (fun x : KV => decide (key < x.Key)) = false) (hx : ¬ key < l[i].Key) : mapPutPre (l.take (i + 1)) key val = mapPutPre (l.take i) key val ++ [l[i]] /\ (mapDel (l.take (i + 1)) key).any (fun x : KV => decide (key < x.Key)) = false := by
 unfold mapPutPre mapPut
 have hs := bJ (key := key) hi
 rw [if_neg (by simp [h])] at hs
 rw [hs, hd, List.any_append, hd]
 simp [hx]
theorem lh {l : List KV} {key : Int} {val : Int} : mapPut l key val = if (mapDel l key).any (fun x : KV => decide (key < x.Key)) then mapPutPre l key val else mapPutPre l key val ++ [⟨key, val⟩] := by
 unfold mapPutPre mapPut
 split
 ·rfl
 ·rename_i h
  rw [insF_not (by simpa using h)]
theorem c164 (x : KV) (key : Int) : Ctr prog 164 [.agg ((encKV x).map .dat), .one (.ptr (.ro 1 [[.int .i64 key]] 0 0))] [] (.one (.dat (.bool (decide (key < x.Key))))) [] := by
 simp only [encKV, List.map_cons, List.map_nil]
 refine Ctr.bd aa func164 rfl ?_
 refine evl ?_
 refine Fin.nt results164 [] ?_ ?_ ?_ <;> try trivial
theorem c71 (l : List KV) (hl : l.length <= 16777216) (key val : Int) : Ctr prog 71 [.one (.dat (.sl 2 (l.map encKV))), .one (.dat (.int .i64 key)), .one (.dat (.int .i64 val))] [] (.one (.own 0)) [.vec 2 true ((mapPut l key val).map encKV)] := by
 have hm := bU l key
 have hm' : (mapDel l key).length <= maxLen := Nat.le_trans (Nat.le_trans hm hl) (by decide)
 refine Ctr.bd aa func71 rfl ?_
 refine evl ?_
 refine ae e162 (c162 l hl key) rfl ?_
 refine evl ?_
 refine ae e163 (c163 (mapDel l key) hm' e164 (fun x => c164 x key)) rfl ?_
 rcases bi (fun x : KV => decide (key < x.Key)) (mapDel l key) with ⟨e, hno⟩ | ⟨i, hi, e, hp, hno⟩
 ·rw [e]
  refine evl ?_
  refine ⟨by simp [D.flat], ?_⟩
  refine cJ [1, 2] e165 (by simp [osOk, St.obj, find]) (c165 (mapDel l key) (mapDel l key).length (by omega) ⟨key, val⟩ (by omega)) rfl ?_
  rw [nh (p := fun x : KV => decide (key < x.Key)) (y := ⟨key, val⟩) hno]
  refine evl ?_
  refine Fin.nt results71 [3] ?_ ?_ ?_ <;> try trivial
  all_goals (simp [objsLe, envLe, find, St.obj, AObj.renF, AV.renF, AV.renF1, Leaf.renF, LowAll, AV.Low, AV.Low1, Leaf.Low, AObj.Low, Ptr.renF, Ptr.Low]; try rfl)
 ·rw [e]
  have hnn : decide ((i : Int) < 0) = false := by simp
  simp (maxSteps := 2000000) only [go_sem, seval, hnn]
  refine ⟨by simp [D.flat], ?_⟩
  refine cJ [1, 2] e165 (by simp [osOk, St.obj, find]) (c165 (mapDel l key) i (by omega) ⟨key, val⟩ (by omega)) rfl ?_
  rw [kl (p := fun x : KV => decide (key < x.Key)) (y := ⟨key, val⟩) hi hp hno]
  refine evl ?_
  refine Fin.nt results71 [3] ?_ ?_ ?_ <;> try trivial
  all_goals (simp [objsLe, envLe, find, St.obj, AObj.renF, AV.renF, AV.renF1, Leaf.renF, LowAll, AV.Low, AV.Low1, Leaf.Low, AObj.Low, Ptr.renF, Ptr.Low]; try rfl)
theorem c67 (l : List KV) (hl : l.length <= 16777216) (key val : Int) : Ctr prog 67 [.one (.dat (.sl 2 (l.map encKV))), .one (.dat (.int .i64 key)), .one (.dat (.int .i64 val))] [] (.one (.own 0)) [.vec 2 true ((mapPut l key val).map encKV)] := by
 have hl' : l.length <= maxLen := Nat.le_trans hl (by decide)
 refine Ctr.bd aa func67 rfl ?_
 refine evl ?_
 refine ⟨by simp, ?_⟩
 refine ab (fun n s => ∃ i : Nat, i <= l.length /\ n = l.length - i /\ s = mkSt [(9, .one (.dat (.int .i64 i))), (8, .one (.dat (.bool ((mapDel (l.take i) key).any (fun x : KV => decide (key < x.Key)))))), (7, .one (.own 0)), (2, .one (.dat (.int .i64 val))), (1, .one (.dat (.int .i64 key))), (0, .one (.dat (.sl 2 (l.map encKV))))] [.vec 2 true ((mapPutPre (l.take i) key val).map encKV)]) l.length _
  (Ent.weak (ids := [0]) (by simp) rfl (by simp) (by simp [objsLe, envLe, find, St.obj, AObj.renF, AV.renF, AV.renF1, Leaf.renF, LowAll, AV.Low, AV.Low1, Leaf.Low, AObj.Low, Ptr.renF, Ptr.Low]; try simp [mapPutPre, mapDel]) (by simp [objsLe, envLe, find, St.obj, AObj.renF, AV.renF, AV.renF1, Leaf.renF, LowAll, AV.Low, AV.Low1, Leaf.Low, AObj.Low, Ptr.renF, Ptr.Low]; try simp [mapDel]) (by simp [objsLe, envLe, find, St.obj, AObj.renF, AV.renF, AV.renF1, Leaf.renF, LowAll, AV.Low, AV.Low1, Leaf.Low, AObj.Low, Ptr.renF, Ptr.Low])) ⟨0, by omega, by omega, rfl⟩ ?_
 rintro n s ⟨i, hi, rfl, rfl⟩ K hK
 have hm := ir (l.take i) key val
 rw [List.length_take, Nat.min_eq_left hi] at hm
 rcases Nat.lt_or_ge i l.length with hlt | hge
 ·have hdi : decide ((i : Int) < l.length) = true := by simpa using hlt
  have hw := ah hlt hl'
  have hf1 : ∀ r ∈ [encKV l[i]], ∀ d ∈ r, d.flat = true := by simp [encKV, D.flat]
  have hf2 : ∀ r ∈ [encKV ⟨key, val⟩], ∀ d ∈ r, d.flat = true := by simp [encKV, D.flat]
  cases hkey : (l[i].Key == key) with
  | true =>
   simp (maxSteps := 2000000) only [go_sem, seval, hdi, hw, getD_map hlt, encKV, List.length_append, hkey]
   obtain ⟨s1, s2⟩ := j0 (key := key) (val := val) hlt hkey
   refine ⟨⟨by omega, by omega⟩, hlt, ?_⟩
   apply hK
   exact ⟨l.length - (i + 1), _, by omega, Ent.weak (ids := [0]) (by simp) rfl (by simp) (by rw [s1]; simp [objsLe, envLe, find, St.obj, AObj.renF, AV.renF, AV.renF1, Leaf.renF, LowAll, AV.Low, AV.Low1, Leaf.Low, AObj.Low, Ptr.renF, Ptr.Low]) (by rw [s2]; simp [objsLe, envLe, find, St.obj, AObj.renF, AV.renF, AV.renF1, Leaf.renF, LowAll, AV.Low, AV.Low1, Leaf.Low, AObj.Low, Ptr.renF, Ptr.Low]) (by simp [objsLe, envLe, find, St.obj, AObj.renF, AV.renF, AV.renF1, Leaf.renF, LowAll, AV.Low, AV.Low1, Leaf.Low, AObj.Low, Ptr.renF, Ptr.Low]), i + 1, by omega, rfl, rfl⟩
  | false =>
   cases hd : (mapDel (l.take i) key).any (fun x : KV => decide (key < x.Key)) with
   | true =>
    simp (maxSteps := 2000000) only [go_sem, seval, hdi, hw, getD_map hlt, encKV, List.length_append, hkey, hd]
    obtain ⟨s1, s2⟩ := lc (key := key) (val := val) hlt hkey hd
    repeat' ((with_reducible show _ /\ _); apply And.intro)
    all_goals first
     | (apply hK
        exact ⟨l.length - (i + 1), _, by omega, Ent.weak (ids := [2]) (by simp) rfl (by simp) (by rw [s1]; simp [objsLe, envLe, find, St.obj, AObj.renF, AV.renF, AV.renF1, Leaf.renF, LowAll, AV.Low, AV.Low1, Leaf.Low, AObj.Low, Ptr.renF, Ptr.Low]; try rfl) (by rw [s2]; simp [objsLe, envLe, find, St.obj, AObj.renF, AV.renF, AV.renF1, Leaf.renF, LowAll, AV.Low, AV.Low1, Leaf.Low, AObj.Low, Ptr.renF, Ptr.Low]) (by simp [objsLe, envLe, find, St.obj, AObj.renF, AV.renF, AV.renF1, Leaf.renF, LowAll, AV.Low, AV.Low1, Leaf.Low, AObj.Low, Ptr.renF, Ptr.Low]), i + 1, by omega, rfl, rfl⟩)
     | (with_reducible exact hlt)
     | (with_reducible rfl)
     | exact (rfl : D.flat (.int _ _) = true)
     | exact (rfl : D.flat (.bool _) = true)
     | exact List.nodup_nil
     | exact List.not_mem_nil
     | omega
     | exact hf1
     | exact hf2
   | false =>
    by_cases hx : key < l[i].Key
    ·have hxd : decide (key < l[i].Key) = true := by simpa using hx
     simp (maxSteps := 2000000) only [go_sem, seval, hdi, hw, getD_map hlt, encKV, List.length_append, hkey, hd, hxd]
     obtain ⟨s1, s2⟩ := ld (key := key) (val := val) hlt hkey hd hx
     repeat' ((with_reducible show _ /\ _); apply And.intro)
     all_goals first
      | (apply hK
         exact ⟨l.length - (i + 1), _, by omega, Ent.weak (ids := [4]) (by simp) rfl (by simp) (by rw [s1]; simp [objsLe, envLe, find, St.obj, AObj.renF, AV.renF, AV.renF1, Leaf.renF, LowAll, AV.Low, AV.Low1, Leaf.Low, AObj.Low, Ptr.renF, Ptr.Low]; try simp [encKV]) (by rw [s2]; simp [objsLe, envLe, find, St.obj, AObj.renF, AV.renF, AV.renF1, Leaf.renF, LowAll, AV.Low, AV.Low1, Leaf.Low, AObj.Low, Ptr.renF, Ptr.Low]) (by simp [objsLe, envLe, find, St.obj, AObj.renF, AV.renF, AV.renF1, Leaf.renF, LowAll, AV.Low, AV.Low1, Leaf.Low, AObj.Low, Ptr.renF, Ptr.Low]), i + 1, by omega, rfl, rfl⟩)
      | (with_reducible exact hlt)
      | (with_reducible rfl)
      | exact (rfl : D.flat (.int _ _) = true)
      | exact (rfl : D.flat (.bool _) = true)
      | exact List.nodup_nil
      | exact List.not_mem_nil
      | omega
      | exact hf1
      | exact hf2
    ·have hxd : decide (key < l[i].Key) = false := by simpa using hx
     simp (maxSteps := 2000000) only [go_sem, seval, hdi, hw, getD_map hlt, encKV, List.length_append, hkey, hd, hxd]
     obtain ⟨s1, s2⟩ := lg (key := key) (val := val) hlt hkey hd hx
     repeat' ((with_reducible show _ /\ _); apply And.intro)
     all_goals first
      | (apply hK
         exact ⟨l.length - (i + 1), _, by omega, Ent.weak (ids := [2]) (by simp) rfl (by simp) (by rw [s1]; simp [objsLe, envLe, find, St.obj, AObj.renF, AV.renF, AV.renF1, Leaf.renF, LowAll, AV.Low, AV.Low1, Leaf.Low, AObj.Low, Ptr.renF, Ptr.Low]; try rfl) (by rw [s2]; simp [objsLe, envLe, find, St.obj, AObj.renF, AV.renF, AV.renF1, Leaf.renF, LowAll, AV.Low, AV.Low1, Leaf.Low, AObj.Low, Ptr.renF, Ptr.Low]) (by simp [objsLe, envLe, find, St.obj, AObj.renF, AV.renF, AV.renF1, Leaf.renF, LowAll, AV.Low, AV.Low1, Leaf.Low, AObj.Low, Ptr.renF, Ptr.Low]), i + 1, by omega, rfl, rfl⟩)
      | (with_reducible exact hlt)
      | (with_reducible rfl)
      | exact (rfl : D.flat (.int _ _) = true)
      | exact (rfl : D.flat (.bool _) = true)
      | exact List.nodup_nil
      | exact List.not_mem_nil
      | omega
      | exact hf1
      | exact hf2
 ·have hge' : i = l.length := by omega
  subst hge'
  have hdi : decide ((l.length : Int) < l.length) = false := by simp
  rw [List.take_length] at hm ⊢
  rw [lh] at hK
  cases hd : (mapDel l key).any (fun x : KV => decide (key < x.Key)) with
  | true =>
   rw [hd, if_pos rfl] at hK
   refine sv3 ?_
   apply hK
   refine evl ?_
   refine Fin.nt results67 [0] ?_ ?_ ?_ <;> try trivial
   all_goals exact entd
  | false =>
   rw [hd, if_neg (by simp)] at hK
   refine sv3 ?_
   apply hK
   refine evl ?_
   refine ⟨⟨by simp [D.flat], by simp⟩, ⟨by simp [D.flat], by simp, by omega, by omega⟩, ?_⟩
   refine Fin.nt results67 [2] ?_ ?_ ?_ <;> try trivial
   all_goals (simp [objsLe, envLe, find, St.obj, AObj.renF, AV.renF, AV.renF1, Leaf.renF, LowAll, AV.Low, AV.Low1, Leaf.Low, AObj.Low, Ptr.renF, Ptr.Low]; try simp [encKV])
theorem c343 (a b : Int) (ha : 0 <= a /\ a <= 65535) (hb : 0 <= b /\ b <= 65535) : Ctr prog 343 [.one (.dat (.int .i64 a)), .one (.dat (.int .i64 b))] [] (.one (.dat (.int .i64 ((a + b) % 65536)))) [] := by
 have hw : IntKind.i64.wrap (a + b) = a + b := by rw [IntKind.wrap_i64]; omega
 have ht : (a + b).tmod 65536 = (a + b) % 65536 := Int.tmod_eq_emod_of_nonneg (by omega)
 refine Ctr.bd aa func343 rfl ?_
 simp (maxSteps := 2000000) only [go_sem, seval, hw, ht]
 first
  | refine Fin.nt results343 [] ?_ ?_ ?_ <;> try trivial
  | (refine ⟨by decide, ?_⟩; refine Fin.nt results343 [] ?_ ?_ ?_ <;> try trivial)
  | (refine ⟨by omega, ?_⟩; refine Fin.nt results343 [] ?_ ?_ ?_ <;> try trivial)
theorem c335 (a b : Int) (ha : 0 <= a /\ a <= 65535) (hb : 0 <= b /\ b <= 65535) : Ctr prog 335 [.one (.dat (.int .i64 a)), .one (.dat (.int .i64 b))] [] (.one (.dat (.int .i64 ((a + b) % 65536)))) [] := by
 have t1 : a.tmod 65536 = a := by rw [Int.tmod_eq_emod_of_nonneg (by omega)]; omega
 have t2 : b.tmod 65536 = b := by rw [Int.tmod_eq_emod_of_nonneg (by omega)]; omega
 have hw : IntKind.i64.wrap (a + b) = a + b := by rw [IntKind.wrap_i64]; omega
 have hw2 : IntKind.i64.wrap (a + b + 65536) = a + b + 65536 := by rw [IntKind.wrap_i64]; omega
 have ht : (a + b + 65536).tmod 65536 = (a + b) % 65536 := by rw [Int.tmod_eq_emod_of_nonneg (by omega)]; omega
 refine Ctr.bd aa func335 rfl ?_
 simp (maxSteps := 2000000) only [go_sem, seval, t1, t2, hw, hw2, ht]
 repeat' ((with_reducible show _ /\ _); apply And.intro)
 all_goals first
  | (exact (by decide : (65536 : Int) = 0 -> False))
  | decide
  | (refine Fin.nt results335 [] ?_ ?_ ?_ <;> try trivial)
def cmdDo (l : List KV) (c : Cmd) : List KV × Res :=
 if mapOk l && cmdOk c.Kind c.Key c.Val then
  if c.Kind = 1 then (l, ⟨(mapGet c.Key l).2, (mapGet c.Key l).1⟩)
  else if c.Kind = 2 then (mapPut l c.Key c.Val, ⟨false, 0⟩)
  else if c.Kind = 3 then (mapDel l c.Key, ⟨false, 0⟩)
  else (mapPut l c.Key (((mapGet c.Key l).1 + c.Val) % 65536), ⟨true, ((mapGet c.Key l).1 + c.Val) % 65536⟩)
 else (l, ⟨false, 0⟩)
theorem cV (l : List KV) (c : Cmd) : (cmdDo l c).1.length <= l.length + 1 := by
 unfold cmdDo
 have h1 := bV l c.Key c.Val
 have h2 := bU l c.Key
 have h3 := bV l c.Key (((mapGet c.Key l).1 + c.Val) % 65536)
 repeat' split
 all_goals simp only <;> omega
theorem em (key : Int) : ∀ {l : List KV}, (∀ x ∈ l, 0 <= x.Val /\ x.Val <= 65535) -> 0 <= (mapGet key l).1 /\ (mapGet key l).1 <= 65535
 | [], _ => by simp [mapGet]
 | x :: l, h => by
  unfold mapGet
  split
  ·exact h x (by simp)
  ·exact em key fun y hy => h y (by simp [hy])
theorem gj {l : List KV} (h : mapOk l = true) : ∀ x ∈ l, 0 <= x.Val /\ x.Val <= 65535 := fun x hx => by
 obtain ⟨j, hj, rfl⟩ := List.getElem_of_mem hx
 simp only [mapOk, List.all_eq_true, List.mem_range] at h
 have := h j hj
 simp only [mapGood, Bool.and_eq_true] at this
 have h2 := this.1.2
 rw [List.getD_eq_getElem?_getD, List.getElem?_eq_getElem hj, Option.getD_some] at h2
 simpa [within] using h2
theorem bP {l : List KV} {c : Cmd} (h : (mapOk l && cmdOk c.Kind c.Key c.Val) = false) : cmdDo l c = (l, ⟨false, 0⟩) := by
 unfold cmdDo; rw [h]; rfl
theorem gk {k x v : Int} (h : cmdOk k x v = true) : (k = 1 \/ k = 2 \/ k = 3 \/ k = 4) /\ (k = 4 -> 0 <= v /\ v <= 65535) := by
 simp only [cmdOk, within, Bool.and_eq_true, Bool.or_eq_true, decide_eq_true_eq, beq_iff_eq] at h
 refine ⟨by omega, fun h4 => ?_⟩
 omega
theorem c299 (l : List KV) (hl : l.length <= 8388608) (c : Cmd) : Ctr prog 299 [.one (.dat (.sl 2 (l.map encKV))), .agg ((encCmd c).map .dat)] [] (.tup [.one (.own 0), .agg [.dat (.bool (cmdDo l c).2.Is), .dat (.int .i64 (cmdDo l c).2.Val)]]) [.vec 2 true ((cmdDo l c).1.map encKV)] := by
 have hl' : l.length <= maxLen := Nat.le_trans hl (by decide)
 obtain ⟨k, key, v⟩ := c
 simp only [encCmd, List.map_cons, List.map_nil]
 refine Ctr.bd aa func299 rfl ?_
 refine evl ?_
 refine ck e267 (c267 l (by omega)) rfl ?_
 refine evl ?_
 cases hm : mapOk l with
 | false =>
  cases hc : cmdOk k key v with
  | false =>
   rw [bP (by simp [hm])]
   refine ck e341 (c341 l hl') rfl ?_
   refine sv14 ?_
   refine ck e176 (c176 k key v) rfl ?_
   refine sv15 ?_
   refine Fin.nt results299 [2] ?_ ?_ ?_ <;> try trivial
   all_goals exact entd
  | true =>
   rw [bP (by simp [hm])]
   refine ck e341 (c341 l hl') rfl ?_
   refine sv14 ?_
   refine ck e176 (c176 k key v) rfl ?_
   refine sv15 ?_
   refine Fin.nt results299 [2] ?_ ?_ ?_ <;> try trivial
   all_goals exact entd
 | true =>
  cases hc : cmdOk k key v with
  | false =>
   rw [bP (by simp [hc])]
   refine ck e341 (c341 l hl') rfl ?_
   refine sv14 ?_
   refine ck e176 (c176 k key v) rfl ?_
   refine sv15 ?_
   refine Fin.nt results299 [2] ?_ ?_ ?_ <;> try trivial
   all_goals exact entd
  | true =>
   refine ck e341 (c341 l hl') rfl ?_
   refine sv14 ?_
   refine ck e176 (c176 k key v) rfl ?_
   obtain ⟨hk, hv⟩ := gk hc
   have hg := em key (gj hm)
   refine sv15 ?_
   refine ck e342 (c342 l hl' key) rfl ?_
   have h11 : ((1 : Int) == 1) = true := rfl
   have h12 : ((1 : Int) == 2) = false := rfl
   have h13 : ((1 : Int) == 3) = false := rfl
   have h14 : ((1 : Int) == 4) = false := rfl
   have h21 : ((2 : Int) == 1) = false := rfl
   have h22 : ((2 : Int) == 2) = true := rfl
   have h31 : ((3 : Int) == 1) = false := rfl
   have h32 : ((3 : Int) == 2) = false := rfl
   have h33 : ((3 : Int) == 3) = true := rfl
   have h41 : ((4 : Int) == 1) = false := rfl
   have h42 : ((4 : Int) == 2) = false := rfl
   have h43 : ((4 : Int) == 3) = false := rfl
   have h44 : ((4 : Int) == 4) = true := rfl
   rcases hk with rfl | rfl | rfl | rfl
   ·rw [show cmdDo l ⟨1, key, v⟩ = (l, ⟨(mapGet key l).2, (mapGet key l).1⟩) from by simp [cmdDo, hm, hc]]
    simp (maxSteps := 2000000) only [go_sem, seval, h11, h12, h13, h14]
    refine Fin.nt results299 [2] ?_ ?_ ?_ <;> try trivial
    all_goals exact entd
   ·rw [show cmdDo l ⟨2, key, v⟩ = (mapPut l key v, ⟨false, 0⟩) from by simp [cmdDo, hm, hc]]
    simp (maxSteps := 2000000) only [go_sem, seval, h21, h22]
    refine ck e71 (c71 l (by omega) key v) rfl ?_
    refine evl ?_
    refine Fin.nt results299 [3] ?_ ?_ ?_ <;> try trivial
    all_goals exact entd
   ·rw [show cmdDo l ⟨3, key, v⟩ = (mapDel l key, ⟨false, 0⟩) from by simp [cmdDo, hm, hc]]
    simp (maxSteps := 2000000) only [go_sem, seval, h31, h32, h33]
    refine ck e162 (c162 l (by omega) key) rfl ?_
    refine evl ?_
    refine Fin.nt results299 [3] ?_ ?_ ?_ <;> try trivial
    all_goals exact entd
   ·rw [show cmdDo l ⟨4, key, v⟩ = (mapPut l key (((mapGet key l).1 + v) % 65536), ⟨true, ((mapGet key l).1 + v) % 65536⟩) from by simp [cmdDo, hm, hc]]
    simp (maxSteps := 2000000) only [go_sem, seval, h41, h42, h43, h44]
    refine ck e343 (c343 (mapGet key l).1 v hg (hv rfl)) rfl ?_
    refine evl ?_
    refine ck e71 (c71 l (by omega) key (((mapGet key l).1 + v) % 65536)) rfl ?_
    refine evl ?_
    refine Fin.nt results299 [3] ?_ ?_ ?_ <;> try trivial
    all_goals exact entd
theorem c284 (l : List KV) (hl : l.length <= 8388608) (c : Cmd) : Ctr prog 284 [.one (.dat (.sl 2 (l.map encKV))), .agg ((encCmd c).map .dat)] [] (.tup [.one (.own 0), .agg [.dat (.bool (cmdDo l c).2.Is), .dat (.int .i64 (cmdDo l c).2.Val)]]) [.vec 2 true ((cmdDo l c).1.map encKV)] := by
 have hl' : l.length <= maxLen := Nat.le_trans hl (by decide)
 obtain ⟨k, key, v⟩ := c
 simp only [encCmd, List.map_cons, List.map_nil]
 refine Ctr.bd aa func284 rfl ?_
 refine evl ?_
 refine ⟨by simp, ⟨by simp [encKV, D.flat], by simp, by omega, by omega⟩, ?_⟩
 cases hm : mapOk l with
 | false =>
  cases hc : cmdOk k key v with
  | false =>
   rw [bP (by simp [hm])]
   refine ck e167 (c167 k key v) rfl ?_
   refine sv16 ?_
   refine ck e332 (c332 l hl') rfl ?_
   refine sv15 ?_
   refine Fin.nt results284 [3] ?_ ?_ ?_ <;> try trivial
   all_goals exact entd
  | true =>
   rw [bP (by simp [hm])]
   refine ck e167 (c167 k key v) rfl ?_
   refine sv16 ?_
   refine ck e332 (c332 l hl') rfl ?_
   refine sv15 ?_
   refine Fin.nt results284 [3] ?_ ?_ ?_ <;> try trivial
   all_goals exact entd
 | true =>
  cases hc : cmdOk k key v with
  | false =>
   rw [bP (by simp [hc])]
   refine ck e167 (c167 k key v) rfl ?_
   refine sv16 ?_
   refine ck e332 (c332 l hl') rfl ?_
   refine sv15 ?_
   refine Fin.nt results284 [3] ?_ ?_ ?_ <;> try trivial
   all_goals exact entd
  | true =>
   refine ck e167 (c167 k key v) rfl ?_
   refine sv16 ?_
   refine ck e332 (c332 l hl') rfl ?_
   obtain ⟨hk, hv⟩ := gk hc
   have hg := em key (gj hm)
   refine sv15 ?_
   refine ck e333 (c333 l hl' key) rfl ?_
   have h11 : ((1 : Int) == 1) = true := rfl
   have h12 : ((1 : Int) == 2) = false := rfl
   have h13 : ((1 : Int) == 3) = false := rfl
   have h14 : ((1 : Int) == 4) = false := rfl
   have h21 : ((2 : Int) == 1) = false := rfl
   have h22 : ((2 : Int) == 2) = true := rfl
   have h31 : ((3 : Int) == 1) = false := rfl
   have h32 : ((3 : Int) == 2) = false := rfl
   have h33 : ((3 : Int) == 3) = true := rfl
   have h41 : ((4 : Int) == 1) = false := rfl
   have h42 : ((4 : Int) == 2) = false := rfl
   have h43 : ((4 : Int) == 3) = false := rfl
   have h44 : ((4 : Int) == 4) = true := rfl
   rcases hk with rfl | rfl | rfl | rfl
   ·rw [show cmdDo l ⟨1, key, v⟩ = (l, ⟨(mapGet key l).2, (mapGet key l).1⟩) from by simp [cmdDo, hm, hc]]
    simp (maxSteps := 2000000) only [go_sem, seval, h11, h12, h13, h14]
    refine Fin.nt results284 [3] ?_ ?_ ?_ <;> try trivial
    all_goals exact entd
   ·rw [show cmdDo l ⟨2, key, v⟩ = (mapPut l key v, ⟨false, 0⟩) from by simp [cmdDo, hm, hc]]
    simp (maxSteps := 2000000) only [go_sem, seval, h21, h22]
    refine ck e67 (c67 l (by omega) key v) rfl ?_
    refine evl ?_
    repeat ((with_reducible show _ = true /\ _); refine ⟨by kernel_rfl, ?_⟩)
    refine Fin.nt results284 [4] ?_ ?_ ?_ <;> try trivial
    all_goals exact entd
   ·rw [show cmdDo l ⟨3, key, v⟩ = (mapDel l key, ⟨false, 0⟩) from by simp [cmdDo, hm, hc]]
    simp (maxSteps := 2000000) only [go_sem, seval, h31, h32, h33]
    refine ck e334 (c334 l (by omega) key) rfl ?_
    refine evl ?_
    repeat ((with_reducible show _ = true /\ _); refine ⟨by kernel_rfl, ?_⟩)
    refine Fin.nt results284 [4] ?_ ?_ ?_ <;> try trivial
    all_goals exact entd
   ·rw [show cmdDo l ⟨4, key, v⟩ = (mapPut l key (((mapGet key l).1 + v) % 65536), ⟨true, ((mapGet key l).1 + v) % 65536⟩) from by simp [cmdDo, hm, hc]]
    simp (maxSteps := 2000000) only [go_sem, seval, h41, h42, h43, h44]
    refine ck e335 (c335 (mapGet key l).1 v hg (hv rfl)) rfl ?_
    refine evl ?_
    refine ck e67 (c67 l (by omega) key (((mapGet key l).1 + v) % 65536)) rfl ?_
    refine evl ?_
    refine ck e335 (c335 (mapGet key l).1 v hg (hv rfl)) rfl ?_
    refine evl ?_
    repeat ((with_reducible show _ = true /\ _); refine ⟨by kernel_rfl, ?_⟩)
    refine Fin.nt results284 [4] ?_ ?_ ?_ <;> try trivial
    all_goals exact entd
def cmdsGo (l : List KV) (o : List Res) : List Cmd -> List KV × List Res
 | [] => (l, o)
 | c :: r => cmdsGo (cmdDo l c).1 (o ++ [(cmdDo l c).2]) r
def cmdsDo (l : List KV) (cs : List Cmd) : List KV × List Res := cmdsGo l [] cs
theorem gl : ∀ (r : List Cmd) (l : List KV) (o : List Res), (cmdsGo l o r).1.length <= l.length + r.length /\ (cmdsGo l o r).2.length = o.length + r.length
 | [], l, o => by simp [cmdsGo]
 | c :: r, l, o => by
  unfold cmdsGo
  have h := gl r (cmdDo l c).1 (o ++ [(cmdDo l c).2])
  have h2 := cV l c
  simp at h ⊢
  omega
theorem gn (l : List KV) (cs : List Cmd) : (cmdsDo l cs).1.length <= l.length + cs.length /\ (cmdsDo l cs).2.length = cs.length := by
 have := gl cs l []; simpa [cmdsDo] using this
theorem c231 (l : List KV) (hl : l.length <= 4194304) (cs : List Cmd) (hc : cs.length <= 4194304) : Ctr prog 231 [.one (.dat (.sl 2 (l.map encKV))), .one (.dat (.sl 3 (cs.map encCmd)))] [] (.tup [.one (.own 0), .one (.own 1)]) [.vec 2 true ((cmdsDo l cs).1.map encKV), .vec 2 true ((cmdsDo l cs).2.map encRes)] := by
 have hl' : l.length <= maxLen := Nat.le_trans hl (by decide)
 have hc' : cs.length <= maxLen := Nat.le_trans hc (by decide)
 refine Ctr.bd aa func231 rfl ?_
 refine evl ?_
 refine ck e267 (c267 l (by omega)) rfl ?_
 refine evl ?_
 refine ⟨by simp, ?_⟩
 refine ab (fun zn zs => ∃ (i : Nat) (m : List KV) (o : List Res), i <= cs.length /\ zn = cs.length - i /\ (m.length <= l.length + i /\ o.length = i /\ cmdsDo l cs = cmdsGo m o (cs.drop i)) /\ zs = mkSt [(17, .one (.dat (.int .i64 i))), (16, .one (.dat (.int .i64 (cs.length)))), (15, .one (.dat (.sl 3 (cs.map encCmd)))), (6, .one (.own 0)), (7, .one (.own 1)), (0, .one (.dat (.sl 2 (l.map encKV)))), (1, .one (.dat (.sl 3 (cs.map encCmd))))] [.vec 2 true (m.map encKV), .vec 2 true (o.map encRes)]) (cs.length) _
  (Ent.wk [0, 1]) ⟨0, l, [], by omega, by omega, ⟨by simp, by simp, rfl⟩, rfl⟩ ?_
 rintro zn zs ⟨i, m, o, hi, rfl, hinv, rfl⟩ K hK
 rcases Nat.lt_or_ge i (cs.length) with hlt | hge
 ·have hdi : decide ((i : Int) < ((cs.length : Nat) : Int)) = true := decide_eq_true (by omega)
  have hw := ah hlt hc'
  obtain ⟨hm, ho, hinv⟩ := hinv
  rw [List.drop_eq_getElem_cons hlt, cmdsGo] at hinv
  have hd := cV m cs[i]
  refine sv17 ?_
  refine scs ?_
  refine ck e299 (c299 m (by omega) cs[i]) rfl ?_
  refine sv17 ?_
  refine scs ?_
  (apply hK
   exact ⟨cs.length - (i + 1), _, by omega, Ent.wk [3, 6], i + 1, (cmdDo m cs[i]).1, o ++ [(cmdDo m cs[i]).2], by omega, rfl, ⟨by omega, by simp; omega, hinv⟩, rfl⟩)
 ·have hge' : cs.length = i := by omega
  subst hge'
  have hdi : decide (((cs.length : Nat) : Int) < ((cs.length : Nat) : Int)) = false := by simp
  obtain ⟨_, _, hinv⟩ := hinv
  rw [List.drop_length, cmdsGo] at hinv
  refine sv3 ?_
  apply hK
  rw [hinv]
  refine evl ?_
  refine Fin.nt results231 [0, 1] ?_ ?_ ?_ <;> try trivial
  all_goals exact entd
theorem c208 (l : List KV) (hl : l.length <= 4194304) (cs : List Cmd) (hc : cs.length <= 4194304) : Ctr prog 208 [.one (.dat (.sl 2 (l.map encKV))), .one (.dat (.sl 3 (cs.map encCmd)))] [] (.tup [.one (.own 0), .one (.own 1)]) [.vec 2 true ((cmdsDo l cs).1.map encKV), .vec 2 true ((cmdsDo l cs).2.map encRes)] := by
 have hl' : l.length <= maxLen := Nat.le_trans hl (by decide)
 have hc' : cs.length <= maxLen := Nat.le_trans hc (by decide)
 refine Ctr.bd aa func208 rfl ?_
 refine evl ?_
 refine ⟨by simp, ⟨by simp [encKV, D.flat], by simp, by omega, by omega⟩, by simp, ?_⟩
 refine ab (fun zn zs => ∃ (i : Nat) (m : List KV) (o : List Res), i <= cs.length /\ zn = cs.length - i /\ (m.length <= l.length + i /\ o.length = i /\ cmdsDo l cs = cmdsGo m o (cs.drop i)) /\ zs = mkSt [(8, .one (.dat (.int .i64 i))), (6, .one (.own 0)), (7, .one (.own 1)), (0, .one (.dat (.sl 2 (l.map encKV)))), (1, .one (.dat (.sl 3 (cs.map encCmd))))] [.vec 2 true (m.map encKV), .vec 2 true (o.map encRes)]) (cs.length) _
  (Ent.wk [1, 2]) ⟨0, l, [], by omega, by omega, ⟨by simp, by simp, rfl⟩, rfl⟩ ?_
 rintro zn zs ⟨i, m, o, hi, rfl, hinv, rfl⟩ K hK
 rcases Nat.lt_or_ge i (cs.length) with hlt | hge
 ·have hdi : decide ((i : Int) < ((cs.length : Nat) : Int)) = true := decide_eq_true (by omega)
  have hw := ah hlt hc'
  obtain ⟨hm, ho, hinv⟩ := hinv
  rw [List.drop_eq_getElem_cons hlt, cmdsGo] at hinv
  have hd := cV m cs[i]
  refine sv17 ?_
  refine scs ?_
  refine ck e284 (c284 m (by omega) cs[i]) rfl ?_
  refine sv17 ?_
  refine scs ?_
  (apply hK
   exact ⟨cs.length - (i + 1), _, by omega, Ent.wk [2, 5], i + 1, (cmdDo m cs[i]).1, o ++ [(cmdDo m cs[i]).2], by omega, rfl, ⟨by omega, by simp; omega, hinv⟩, rfl⟩)
 ·have hge' : cs.length = i := by omega
  subst hge'
  have hdi : decide (((cs.length : Nat) : Int) < ((cs.length : Nat) : Int)) = false := by simp
  obtain ⟨_, _, hinv⟩ := hinv
  rw [List.drop_length, cmdsGo] at hinv
  refine sv3 ?_
  apply hK
  rw [hinv]
  refine evl ?_
  refine Fin.nt results208 [0, 1] ?_ ?_ ?_ <;> try trivial
  all_goals exact entd
end Go.Proofs.YtkmmgklnoagedaaGreat.Mod
