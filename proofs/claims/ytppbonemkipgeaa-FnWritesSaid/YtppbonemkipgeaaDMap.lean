/- Contracts: Map. -/
import Derived.Test.YtppbonemkipgeaaRows
import Derived.Test.YtppbonemkipgeaaDTy
import Derived.Test.YtppbonemkipgeaaAbsTac
import Derived.Test.YtppbonemkipgeaaAbsData
import Derived.Test.YtppbonemkipgeaaDNum
import Derived.Test.YtppbonemkipgeaaDSl
import Derived.WalkKit
import Derived.ProofKit
import Derived.OpenShut
namespace Go.Proofs.Ytppbonemkipgeaa.Mod
open Go.Proofs.Try Go.Abs Go.Proofs.Ytppbonemkipgeaa.Ty Go.ChangeShapes Go.WideShapes Go.ChangeAt Go.RowKit
set_option linter.unusedSimpArgs false
set_option linter.unusedVariables false
set_option maxHeartbeats 8000000
set_option maxRecDepth 100000
def mapGood (l : List KV) (i : Nat) : Bool := within (l.getD i ⟨0, 0⟩).Key 0 99 && within (l.getD i ⟨0, 0⟩).Val 0 65535 && (i == 0 || decide ((l.getD (i - 1) ⟨0, 0⟩).Key < (l.getD i ⟨0, 0⟩).Key))
def mapOk (l : List KV) : Bool := (List.range l.length).all (mapGood l)
theorem mapOk_true {l : List KV} (h : ∀ j, j < l.length -> mapGood l j = true) : mapOk l = true := by simpa [mapOk] using h
theorem mapOk_false {l : List KV} {i : Nat} (h : i < l.length) (hb : mapGood l i = false) : mapOk l = false := by
 cases e : mapOk l
 ·rfl
 ·simp [mapOk] at e
  simp [e i h] at hb
theorem mapGood_eq {l : List KV} {i : Nat} (hlt : i < l.length) (h1 : i - 1 < l.length) : mapGood l i =
  !(bif (bif !within l[i].Key 0 99 then true else !within l[i].Val 0 65535) then true else bif decide ((0 : Int) < i) then decide (l[i].Key <= l[i - 1].Key) else false) := by
 unfold mapGood
 rw [List.getD_eq_getElem?_getD, List.getD_eq_getElem?_getD, List.getElem?_eq_getElem hlt, List.getElem?_eq_getElem h1, Option.getD_some, Option.getD_some]
 by_cases h : i = 0
 ·subst h; simp
 ·have h' : 0 < i := by omega
  have e : decide (l[i - 1].Key < l[i].Key) = !decide (l[i].Key <= l[i - 1].Key) := by
   by_cases hh : l[i].Key <= l[i - 1].Key
   ·simp [hh]
   ·simp [hh]; omega
  rw [e]
  cases within l[i].Key 0 99 <;> cases within l[i].Val 0 65535 <;> simp [h, h']
theorem c22 (l : List KV) (hl : l.length <= maxLen) : Ctr prog 22 [.one (.dat (.sl 2 (l.map encKV)))] [] (.one (.dat (.bool (mapOk l)))) [] := by
 refine Ctr.bd mixed func22 rfl ?_
 refine evl ?_
 refine LoopK_intro (fun n s => ∃ i : Nat, i <= l.length /\ n = l.length - i /\ (∀ j, j < i -> mapGood l j = true) /\ s = mkSt [(3, .one (.dat (.int .i64 i))), (0, .one (.dat (.sl 2 (l.map encKV))))] []) l.length _
  (Ent.weak (ids := []) (by simp) rfl (by simp) ?_ ?_ ?_) ⟨0, by omega, by omega, by simp, rfl⟩ ?_
 ·simp [objsLe, St.obj, find, AObj.renF]
 ·simp [envLe, find, AV.renF, AV.renF1, Leaf.renF]
 ·simp [LowAll, AV.Low, AV.Low1, Leaf.Low, AObj.Low]
 rintro n s ⟨i, hi, rfl, ht, rfl⟩ K hK
 refine evl ?_
 constructor <;> intro h
 ·have hlt : i < l.length := by simpa using h
  refine ⟨⟨by omega, by omega⟩, hlt, ?_⟩
  simp only [getD_map hlt, encKV, List.getD_cons_zero, List.getD_cons_succ]
  have hlt1 : i - 1 < l.length := by omega
  repeat' first
  | ((with_reducible show Abs.Fin _ _ _ _ _ _); refine Fin.nt results22 [] ?_ ?_ ?_ <;> try trivial)
  | ((first | refine CCallK_pl e54 (c54 ..) rfl rfl ?_ | refine CCallK_pm e54 (c54 ..) rfl rfl ?_ | refine ck e54 (c54 ..) rfl ?_); simp (maxSteps := 2000000) only [go_sem, seval, getD_map hlt, encKV, pred_toNat hlt hl, getD_map hlt1, wrap_succ hlt hl])
  | with_reducible intro h
  | ((with_reducible show _ /\ _); apply And.intro)
  all_goals try (first | assumption | exact True.intro | omega | (clear hK; simp_all; done))
  all_goals try (rw [wrap_pred hlt hl]; clear hK; simp at *; omega)
  ·apply hK
   refine evl ?_
   refine Fin.nt results22 [] ?_ ?_ ?_ <;> try trivial
   (refine rsl ?_; try exact .intro)
   exact (mapOk_false hlt (by rw [mapGood_eq hlt hlt1, h]; rfl)).symm
  ·apply hK
   refine ⟨l.length - (i + 1), _, by omega, Ent.wk [], i + 1, by omega, rfl, fun j hj => ?_, rfl⟩
   by_cases e : j = i
   ·subst e; rw [mapGood_eq hlt hlt1, h]; rfl
   ·exact ht j (by omega)
 ·have hge : i = l.length := by simp at h; omega
  subst hge
  apply hK
  refine evl ?_
  refine Fin.nt results22 [] ?_ ?_ ?_ <;> try trivial
  (refine rsl ?_; try exact .intro)
  exact (mapOk_true ht).symm
def mapGet (key : Int) : List KV -> Int × Bool
 | [] => (0, false)
 | x :: l => if x.Key = key then (x.Val, true) else mapGet key l
theorem c27 (l l' : List KV) (hl : l.length <= maxLen) (hl' : l'.length <= maxLen) : Ctr prog 27 [.one (.dat (.sl 2 (l.map encKV))), .one (.dat (.sl 2 (l'.map encKV)))] [] (.one (.dat (.bool (decide (l = l'))))) [] := by
 refine Ctr.bd mixed func27 rfl ?_
 refine evl ?_
 constructor <;> intro h
 ·have hne : l.length ≠ l'.length := by simp at h; omega
  refine Fin.nt results27 [] ?_ ?_ ?_ <;> try trivial
  (refine rsl ?_; try exact .intro)
  symm; rw [decide_eq_false_iff_not]
  intro e; exact hne (by rw [e])
 have hlen : l.length = l'.length := by simp at h; omega
 refine LoopK_intro (fun n s => ∃ i : Nat, i <= l.length /\ n = l.length - i /\ l.take i = l'.take i /\ s = mkSt [(5, .one (.dat (.int .i64 i))), (1, .one (.dat (.sl 2 (l'.map encKV)))), (0, .one (.dat (.sl 2 (l.map encKV))))] []) l.length _
  (Ent.wk []) ⟨0, by omega, by omega, rfl, rfl⟩ ?_
 rintro n s ⟨i, hi, rfl, ht, rfl⟩ K hK
 refine evl ?_
 constructor <;> intro h
 ·have hlt : i < l.length := by simpa using h
  have hlt' : i < l'.length := by omega
  simp only [getD_map hlt, getD_map hlt', encKV, List.map_cons, List.map_nil, List.take_succ_cons, List.take_zero]
  simp (maxSteps := 2000000) only [go_sem, seval, wrap_succ hlt hl]
  repeat' first
   | with_reducible intro h
   | ((with_reducible show _ /\ _); apply And.intro)
  all_goals try (first | assumption | exact True.intro | omega | (clear hK; simp_all; done))
  ·apply hK
   refine evl ?_
   refine Fin.nt results27 [] ?_ ?_ ?_ <;> try trivial
   (refine rsl ?_; try exact .intro)
   symm; rw [decide_eq_false_iff_not]
   rintro rfl; simp at h
  ·apply hK
   have he : l[i] = l'[i] := by rw [KV.eq_iff]; simpa using h
   refine ⟨l.length - (i + 1), _, by omega, Ent.wk [], i + 1, by omega, rfl, ?_, rfl⟩
   rw [List.take_succ_eq_append_getElem hlt, List.take_succ_eq_append_getElem hlt', ht, he]
 ·have hge : i = l.length := by simp at h; omega
  subst hge
  apply hK
  refine evl ?_
  refine Fin.nt results27 [] ?_ ?_ ?_ <;> try trivial
  (refine rsl ?_; try exact .intro)
  symm; rw [decide_eq_true_iff]
  rw [List.take_of_length_le (Nat.le_refl _), List.take_of_length_le (by omega)] at ht
  exact ht
def cntPut : List Write -> Nat
 | [] => 0
 | x :: l => (if x.Del then 0 else 1) + cntPut l
theorem cntPut_append (a b : List Write) : cntPut (a ++ b) = cntPut a + cntPut b := by
 induction a with
 | nil => simp [cntPut]
 | cons x a ih => simp [cntPut, ih]; omega
theorem cntPut_succ {l : List Write} {i : Nat} (h : i < l.length) : cntPut (l.take (i + 1)) = cntPut (l.take i) + (if l[i].Del then 0 else 1) := by
 rw [List.take_succ_eq_append_getElem h, cntPut_append]; simp [cntPut]
theorem cntPut_le (l : List Write) (i : Nat) : cntPut (l.take i) <= i := by
 induction i with
 | zero => simp [cntPut]
 | succ i ih =>
  by_cases h : i < l.length
  ·rw [cntPut_succ h]; split <;> omega
  ·rw [List.take_of_length_le (by omega)]; rw [List.take_of_length_le (by omega)] at ih; omega
theorem c38 (l : List Write) (hl : l.length <= maxLen) (n : Int) : Ctr prog 38 [.one (.dat (.sl 3 (l.map encWrite))), .one (.dat (.int .i64 n))] [] (.one (.dat (.int .i64 (cntPut (l.take n.toNat))))) [] := by
 refine Ctr.bd mixed func38 rfl ?_
 refine evl ?_
 have hM : (if 0 > (if (l.length : Int) < n then (l.length : Int) else n) then 0 else if (l.length : Int) < n then (l.length : Int) else n) = ((min l.length n.toNat : Nat) : Int) := by
  split <;> split <;> omega
 have hT : l.take (min l.length n.toNat) = l.take n.toNat := by
  rcases Nat.le_total l.length n.toNat with h | h
  ·rw [Nat.min_eq_left h, List.take_of_length_le (Nat.le_refl _), List.take_of_length_le h]
  ·rw [Nat.min_eq_right h]
 simp only [hM, Int.toNat_natCast, Nat.sub_zero, <- List.map_take, hT, List.length_map]
 refine ⟨⟨by omega, by omega⟩, ?_⟩
 have hl' : (l.take n.toNat).length <= maxLen := by simp; omega
 generalize l.take n.toNat = l' at hl' ⊢
 refine LoopK_intro (fun m s => ∃ i : Nat, i <= l'.length /\ m = l'.length - i /\ s = mkSt [(16, .one (.dat (.int .i64 i))), (15, .one (.dat (.int .i64 l'.length))), (14, .one (.dat (.sl 3 (l'.map encWrite)))), (5, .one (.dat (.int .i64 (cntPut (l'.take i)))))] []) l'.length _
  (Ent.weak (ids := []) (by simp) rfl (by simp) (by simp [objsLe, envLe, find, St.obj, AObj.renF, AV.renF, AV.renF1, Leaf.renF, LowAll, AV.Low, AV.Low1, Leaf.Low, AObj.Low, Ptr.renF, Ptr.Low]) (by simp [objsLe, envLe, find, St.obj, AObj.renF, AV.renF, AV.renF1, Leaf.renF, LowAll, AV.Low, AV.Low1, Leaf.Low, AObj.Low, Ptr.renF, Ptr.Low]; simp [cntPut]) (by simp [objsLe, envLe, find, St.obj, AObj.renF, AV.renF, AV.renF1, Leaf.renF, LowAll, AV.Low, AV.Low1, Leaf.Low, AObj.Low, Ptr.renF, Ptr.Low])) ⟨0, by omega, by omega, rfl⟩ ?_
 rintro m s ⟨i, hi, rfl, rfl⟩ K hK
 refine evl ?_
 constructor <;> intro h
 ·have hlt : i < l'.length := by simpa using h
  have hw := wrap_succ hlt hl'
  have hc : IntKind.i64.wrap ((cntPut (l'.take i) : Int) + 1) = ((cntPut (l'.take i) + 1 : Nat) : Int) := wrap_succ (n := l'.length) (by have := cntPut_le l' i; omega) hl'
  refine ⟨⟨by omega, by omega⟩, hlt, ?_⟩
  simp only [getD_map hlt, encWrite, List.getD_cons_zero, List.getD_cons_succ, List.map_cons, List.map_nil, List.take_succ_cons, List.take_zero]
  simp (maxSteps := 2000000) only [go_sem, seval, hw, hc]
  constructor <;> intro h
  ·apply hK
   have hd : l'[i].Del = false := by simpa using h
   refine ⟨l'.length - (i + 1), _, by omega, Ent.weak (ids := []) (by simp) rfl (by simp) (by simp [objsLe, envLe, find, St.obj, AObj.renF, AV.renF, AV.renF1, Leaf.renF, LowAll, AV.Low, AV.Low1, Leaf.Low, AObj.Low, Ptr.renF, Ptr.Low]) (by simp [objsLe, envLe, find, St.obj, AObj.renF, AV.renF, AV.renF1, Leaf.renF, LowAll, AV.Low, AV.Low1, Leaf.Low, AObj.Low, Ptr.renF, Ptr.Low]; rw [cntPut_succ hlt, hd]; simp) (by simp [objsLe, envLe, find, St.obj, AObj.renF, AV.renF, AV.renF1, Leaf.renF, LowAll, AV.Low, AV.Low1, Leaf.Low, AObj.Low, Ptr.renF, Ptr.Low]), i + 1, by omega, rfl, rfl⟩
  ·apply hK
   have hd : l'[i].Del = true := by simpa using h
   refine ⟨l'.length - (i + 1), _, by omega, Ent.weak (ids := []) (by simp) rfl (by simp) (by simp [objsLe, envLe, find, St.obj, AObj.renF, AV.renF, AV.renF1, Leaf.renF, LowAll, AV.Low, AV.Low1, Leaf.Low, AObj.Low, Ptr.renF, Ptr.Low]) (by simp [objsLe, envLe, find, St.obj, AObj.renF, AV.renF, AV.renF1, Leaf.renF, LowAll, AV.Low, AV.Low1, Leaf.Low, AObj.Low, Ptr.renF, Ptr.Low]; rw [cntPut_succ hlt, hd]; simp) (by simp [objsLe, envLe, find, St.obj, AObj.renF, AV.renF, AV.renF1, Leaf.renF, LowAll, AV.Low, AV.Low1, Leaf.Low, AObj.Low, Ptr.renF, Ptr.Low]), i + 1, by omega, rfl, rfl⟩
 ·have hge : i = l'.length := by simp at h; omega
  subst hge
  apply hK
  refine evl ?_
  refine Fin.nt results38 [] ?_ ?_ ?_ <;> try trivial
  (refine rsl ?_; try exact .intro)
  rw [List.take_of_length_le (Nat.le_refl _)]
def writeOf (l : List Write) (key : Int) : Write × Bool := firstF (fun x => x.Key == key) ⟨0, false, 0⟩ l
theorem writeOf_none {l : List Write} {key : Int} (h : ∀ j (hj : j < l.length), (l[j].Key == key) = false) : writeOf l key = (⟨0, false, 0⟩, false) := firstF_none h
theorem writeOf_some {l : List Write} {key : Int} {i : Nat} (hi : i < l.length) (hp : (l[i].Key == key) = true) (h : ∀ j (hj : j < l.length), j < i -> (l[j].Key == key) = false) : writeOf l key = (l[i], true) := firstF_some hi hp h
theorem c65 (x : Write) (key : Int) : Ctr prog 65 [.agg ((encWrite x).map .dat), .one (.ptr (.ro 1 [[.int .i64 key]] 0 0))] [] (.one (.dat (.bool (x.Key == key)))) [] := by
 simp only [encWrite, List.map_cons, List.map_nil]
 refine Ctr.bd mixed func65 rfl ?_
 refine evl ?_
 refine Fin.nt results65 [] ?_ ?_ ?_ <;> try trivial
theorem c33 (l : List Write) (hl : l.length <= maxLen) (key : Int) : Ctr prog 33 [.one (.dat (.sl 3 (l.map encWrite))), .one (.dat (.int .i64 key))] [] (.tup [.agg [.dat (.int .i64 (writeOf l key).1.Key), .dat (.bool (writeOf l key).1.Del), .dat (.int .i64 (writeOf l key).1.Val)], .one (.dat (.bool (writeOf l key).2))]) [] := by
 refine Ctr.bd mixed func33 rfl ?_
 refine evl ?_
 rcases ixF_cases (fun x : Write => x.Key == key) l with ⟨e, hno⟩ | ⟨i, hi, e, hp, hno⟩
 ·refine CallK_pure e62 (c62 l hl e65 (fun x => c65 x key)) rfl ?_
  rw [e, writeOf_none hno]
  refine evl ?_
  refine Fin.nt results33 [] ?_ ?_ ?_ <;> try trivial
 ·refine CallK_pure e62 (c62 l hl e65 (fun x => c65 x key)) rfl ?_
  rw [e, writeOf_some hi hp hno]
  have hnn : decide ((i : Int) < 0) = false := by simp
  simp (maxSteps := 2000000) only [go_sem, seval, hnn, getD_map hi, encWrite]
  refine ⟨⟨by omega, by omega⟩, hi, ?_⟩
  refine Fin.nt results33 [] ?_ ?_ ?_ <;> try trivial
def seenPut (l : List Seen) (b v : Int) : List Seen × Bool := if (firstF (fun x => x.Bkt == b) ⟨0, 0⟩ l).2 then (l, (firstF (fun x => x.Bkt == b) ⟨0, 0⟩ l).1.Ver == v) else (l ++ [⟨b, v⟩], true)
theorem seenPut_none {l : List Seen} {b v : Int} (h : ∀ j (hj : j < l.length), (l[j].Bkt == b) = false) : seenPut l b v = (l ++ [⟨b, v⟩], true) := by
 unfold seenPut; rw [firstF_none (p := fun x : Seen => x.Bkt == b) h]; rfl
theorem seenPut_some {l : List Seen} {b v : Int} {i : Nat} (hi : i < l.length) (hp : (l[i].Bkt == b) = true) (h : ∀ j (hj : j < l.length), j < i -> (l[j].Bkt == b) = false) : seenPut l b v = (l, l[i].Ver == v) := by
 unfold seenPut; rw [firstF_some (p := fun x : Seen => x.Bkt == b) hi hp h]; rfl
theorem seenPut_len (l : List Seen) (b v : Int) : (seenPut l b v).1.length <= l.length + 1 := by
 unfold seenPut; split <;> simp
theorem c68 (x : Seen) (b : Int) : Ctr prog 68 [.agg ((encSeen x).map .dat), .one (.ptr (.ro 1 [[.int .i64 b]] 0 0))] [] (.one (.dat (.bool (x.Bkt == b)))) [] := by
 simp only [encSeen, List.map_cons, List.map_nil]
 refine Ctr.bd mixed func68 rfl ?_
 refine evl ?_
 refine Fin.nt results68 [] ?_ ?_ ?_ <;> try trivial
theorem c36 (l : List Seen) (hl : l.length <= 1048576) (b v : Int) : Ctr prog 36 [.one (.dat (.sl 2 (l.map encSeen))), .one (.dat (.int .i64 b)), .one (.dat (.int .i64 v))] [] (.tup [.one (.own 0), .one (.dat (.bool (seenPut l b v).2))]) [.vec 2 true ((seenPut l b v).1.map encSeen)] := by
 refine Ctr.bd mixed func36 rfl ?_
 refine evl ?_
 refine CallK_pure e66 (c66 l (by omega)) rfl ?_
 refine evl ?_
 refine CallK_pure e67 (c67 l (le20 hl) e68 (fun x => c68 x b)) rfl ?_
 rcases ixF_cases (fun x : Seen => x.Bkt == b) l with ⟨e, hno⟩ | ⟨i, hi, e, hp, hno⟩
 ·rw [e, seenPut_none hno]
  refine evl ?_
  refine ⟨⟨by simp [D.flat], by simp⟩, ⟨by simp [D.flat], by simp, by omega, by omega⟩, ?_⟩
  refine Fin.nt results36 [3] ?_ ?_ ?_ <;> try trivial
  all_goals (simp [objsLe, envLe, find, St.obj, AObj.renF, AV.renF, AV.renF1, Leaf.renF, LowAll, AV.Low, AV.Low1, Leaf.Low, AObj.Low, Ptr.renF, Ptr.Low]; try simp [encSeen])
 ·rw [e, seenPut_some hi hp hno]
  have hnn : decide ((i : Int) < 0) = false := by simp
  simp (maxSteps := 2000000) only [go_sem, seval, hnn, getD_map hi, encSeen]
  refine ⟨by omega, hi, ?_⟩
  refine Fin.nt results36 [1] ?_ ?_ ?_ <;> try trivial
  all_goals exact entd
def mapDel (l : List KV) (key : Int) : List KV := l.filter fun x => !(x.Key == key)
theorem mapDel_len (l : List KV) (key : Int) : (mapDel l key).length <= l.length := List.length_filter_le ..
theorem mapDel_step {l : List KV} {key : Int} {i : Nat} (hi : i < l.length) : mapDel (l.take (i + 1)) key = if l[i].Key == key then mapDel (l.take i) key else mapDel (l.take i) key ++ [l[i]] := by
 unfold mapDel
 rw [List.take_succ_eq_append_getElem hi, List.filter_append, List.filter_cons]
 cases l[i].Key == key <;> simp
theorem c53 (x : KV) (key : Int) : Ctr prog 53 [.agg ((encKV x).map .dat), .one (.ptr (.ro 1 [[.int .i64 key]] 0 0))] [] (.one (.dat (.bool (x.Key == key)))) [] := by
 simp only [encKV, List.map_cons, List.map_nil]
 refine Ctr.bd mixed func53 rfl ?_
 refine evl ?_
 refine Fin.nt results53 [] ?_ ?_ ?_ <;> try trivial
theorem c19 (l : List KV) (hl : l.length <= 16777216) (key : Int) : Ctr prog 19 [.one (.dat (.sl 2 (l.map encKV))), .one (.dat (.int .i64 key))] [] (.one (.own 0)) [.vec 2 true ((mapDel l key).map encKV)] := by
 refine Ctr.bd mixed func19 rfl ?_
 refine evl ?_
 refine CallK_pure e52 (c52 l hl) rfl ?_
 refine evl ?_
 refine CallK_os [1] e51 (by simp [osOk, St.obj, find]) (c51 l hl e53 (fun x => c53 x key)) rfl ?_
 refine evl ?_
 refine Fin.nt results19 [2] ?_ ?_ ?_ <;> try trivial
 all_goals (simp [objsLe, envLe, find, St.obj, AObj.renF, AV.renF, AV.renF1, Leaf.renF, LowAll, AV.Low, AV.Low1, Leaf.Low, AObj.Low, Ptr.renF, Ptr.Low]; try rfl)
theorem c31 (l : List KV) (hl : l.length <= 16777216) (key : Int) : Ctr prog 31 [.one (.dat (.sl 2 (l.map encKV))), .one (.dat (.int .i64 key))] [] (.one (.own 0)) [.vec 2 true ((mapDel l key).map encKV)] := by
 have hl' : l.length <= maxLen := Nat.le_trans hl (by decide)
 refine Ctr.bd mixed func31 rfl ?_
 refine evl ?_
 refine ⟨by simp, ?_⟩
 refine LoopK_intro (fun n s => ∃ i : Nat, i <= l.length /\ n = l.length - i /\ s = mkSt [(6, .one (.dat (.int .i64 i))), (5, .one (.own 0)), (1, .one (.dat (.int .i64 key))), (0, .one (.dat (.sl 2 (l.map encKV))))] [.vec 2 true ((mapDel (l.take i) key).map encKV)]) l.length _
  (Ent.weak (ids := [0]) (by simp) rfl (by simp) (by simp [objsLe, envLe, find, St.obj, AObj.renF, AV.renF, AV.renF1, Leaf.renF, LowAll, AV.Low, AV.Low1, Leaf.Low, AObj.Low, Ptr.renF, Ptr.Low]; try simp [mapDel]) (by simp [objsLe, envLe, find, St.obj, AObj.renF, AV.renF, AV.renF1, Leaf.renF, LowAll, AV.Low, AV.Low1, Leaf.Low, AObj.Low, Ptr.renF, Ptr.Low]) (by simp [objsLe, envLe, find, St.obj, AObj.renF, AV.renF, AV.renF1, Leaf.renF, LowAll, AV.Low, AV.Low1, Leaf.Low, AObj.Low, Ptr.renF, Ptr.Low])) ⟨0, by omega, by omega, rfl⟩ ?_
 rintro n s ⟨i, hi, rfl, rfl⟩ K hK
 have hm := mapDel_len (l.take i) key
 rw [List.length_take, Nat.min_eq_left hi] at hm
 refine evl ?_
 constructor <;> intro h
 ·have hlt : i < l.length := by simpa using h
  have hw := wrap_succ hlt hl'
  have hstep := mapDel_step (key := key) hlt
  refine ⟨⟨by omega, by omega⟩, hlt, ?_⟩
  simp (maxSteps := 2000000) only [go_sem, seval, hw, getD_map hlt, encKV]
  constructor <;> intro h
  ·refine ⟨⟨by omega, by omega⟩, hlt, ⟨by simp [D.flat], by simp⟩, ⟨by simp [D.flat], by simp, by omega, by omega⟩, ?_⟩
   rw [if_neg (by simpa [bne] using h)] at hstep
   apply hK
   refine ⟨l.length - (i + 1), _, by omega, Ent.weak (ids := [2]) (by simp) rfl (by simp) (by rw [hstep]; simp [objsLe, envLe, find, St.obj, AObj.renF, AV.renF, AV.renF1, Leaf.renF, LowAll, AV.Low, AV.Low1, Leaf.Low, AObj.Low, Ptr.renF, Ptr.Low]; try rfl) (by simp [objsLe, envLe, find, St.obj, AObj.renF, AV.renF, AV.renF1, Leaf.renF, LowAll, AV.Low, AV.Low1, Leaf.Low, AObj.Low, Ptr.renF, Ptr.Low]) (by simp [objsLe, envLe, find, St.obj, AObj.renF, AV.renF, AV.renF1, Leaf.renF, LowAll, AV.Low, AV.Low1, Leaf.Low, AObj.Low, Ptr.renF, Ptr.Low]), i + 1, by omega, rfl, rfl⟩
  ·rw [if_pos (by simpa [bne] using h)] at hstep
   apply hK
   refine ⟨l.length - (i + 1), _, by omega, Ent.weak (ids := [0]) (by simp) rfl (by simp) (by rw [hstep]; simp [objsLe, envLe, find, St.obj, AObj.renF, AV.renF, AV.renF1, Leaf.renF, LowAll, AV.Low, AV.Low1, Leaf.Low, AObj.Low, Ptr.renF, Ptr.Low]; try rfl) (by simp [objsLe, envLe, find, St.obj, AObj.renF, AV.renF, AV.renF1, Leaf.renF, LowAll, AV.Low, AV.Low1, Leaf.Low, AObj.Low, Ptr.renF, Ptr.Low]) (by simp [objsLe, envLe, find, St.obj, AObj.renF, AV.renF, AV.renF1, Leaf.renF, LowAll, AV.Low, AV.Low1, Leaf.Low, AObj.Low, Ptr.renF, Ptr.Low]), i + 1, by omega, rfl, rfl⟩
 ·have hge : i = l.length := by simp at h; omega
  subst hge
  apply hK
  rw [List.take_length]
  refine evl ?_
  refine Fin.nt results31 [0] ?_ ?_ ?_ <;> try trivial
  all_goals exact entd
def insF {α : Type} (p : α -> Bool) (y : α) : List α -> List α
 | [] => [y]
 | a :: m => if p a then y :: a :: m else a :: insF p y m
theorem insF_len {α : Type} (p : α -> Bool) (y : α) : ∀ m : List α, (insF p y m).length = m.length + 1
 | [] => rfl
 | a :: m => by
  unfold insF
  split
  ·simp
  ·simp [insF_len p y m]
theorem insF_not {α : Type} {p : α -> Bool} {y : α} : ∀ {m : List α}, m.any p = false -> insF p y m = m ++ [y]
 | [], _ => rfl
 | a :: m, h => by
  simp only [List.any_cons, Bool.or_eq_false_iff] at h
  unfold insF
  rw [h.1, insF_not h.2]
  rfl
theorem insF_old {α : Type} {p : α -> Bool} {y x : α} : ∀ {m : List α}, m.any p = true -> insF p y (m ++ [x]) = insF p y m ++ [x]
 | [], h => by simp at h
 | a :: m, h => by
  rw [List.cons_append]
  unfold insF
  cases ha : p a with
  | true => simp
  | false =>
   simp only [List.any_cons, ha, Bool.false_or] at h
   simp [insF_old h]
theorem insF_new {α : Type} {p : α -> Bool} {y x : α} (hx : p x = true) : ∀ {m : List α}, m.any p = false -> insF p y (m ++ [x]) = m ++ [y, x]
 | [], _ => by simp [insF, hx]
 | a :: m, h => by
  simp only [List.any_cons, Bool.or_eq_false_iff] at h
  rw [List.cons_append]
  unfold insF
  rw [h.1, insF_new hx h.2]
  simp
theorem insF_end {α : Type} {p : α -> Bool} {y : α} {m : List α} (h : ∀ j (hj : j < m.length), p m[j] = false) : m.take m.length ++ y :: m.drop m.length = insF p y m := by
 rw [insF_not]
 ·simp
 ·rw [List.any_eq_false]
  intro x hx
  obtain ⟨j, hj, rfl⟩ := List.getElem_of_mem hx
  simp [h j hj]
theorem insF_at {α : Type} {p : α -> Bool} {y : α} : ∀ {m : List α} {i : Nat} (hi : i < m.length), p m[i] = true -> (∀ j (hj : j < m.length), j < i -> p m[j] = false) -> m.take i ++ y :: m.drop i = insF p y m
 | [], i, hi, _, _ => by simp at hi
 | a :: m, 0, _, hp, _ => by
  have hp' : p a = true := hp
  simp [insF, hp']
 | a :: m, i + 1, hi, hp, h => by
  have h0 : p a = false := h 0 (by simp) (by omega)
  have := insF_at (p := p) (y := y) (m := m) (i := i) (by simpa using hi) (by simpa using hp) (fun j hj hji => h (j + 1) (by simpa using hj) (by omega))
  unfold insF
  rw [h0]
  simp only [List.take_succ_cons, List.drop_succ_cons, List.cons_append, Bool.false_eq_true, if_false]
  rw [this]
def mapPut (l : List KV) (key : Int) (val : Int) : List KV := insF (fun x : KV => decide (key < x.Key)) ⟨key, val⟩ (mapDel l key)
theorem mapPut_len (l : List KV) (key : Int) (val : Int) : (mapPut l key val).length <= l.length + 1 := by
 unfold mapPut
 rw [insF_len]
 have := mapDel_len l key
 omega
def mapPutPre (l : List KV) (key : Int) (val : Int) : List KV := if (mapDel l key).any (fun x : KV => decide (key < x.Key)) then mapPut l key val else mapDel l key
theorem mapPutPre_len (l : List KV) (key : Int) (val : Int) : (mapPutPre l key val).length <= l.length + 1 := by
 unfold mapPutPre
 have h1 := mapPut_len l key val
 have h2 := mapDel_len l key
 split <;> omega
theorem mapPut_skip {l : List KV} {key : Int} {val : Int} {i : Nat} (hi : i < l.length) (h : (l[i].Key == key) = true) : mapPutPre (l.take (i + 1)) key val = mapPutPre (l.take i) key val /\ (mapDel (l.take (i + 1)) key).any (fun x : KV => decide (key < x.Key)) = (mapDel (l.take i) key).any (fun x : KV => decide (key < x.Key)) := by
 unfold mapPutPre mapPut
 rw [mapDel_step hi, if_pos h]
 exact ⟨rfl, rfl⟩
theorem mapPut_old {l : List KV} {key : Int} {val : Int} {i : Nat} (hi : i < l.length) (h : (l[i].Key == key) = false) (hd : (mapDel (l.take i) key).any (fun x : KV => decide (key < x.Key)) = true) : mapPutPre (l.take (i + 1)) key val = mapPutPre (l.take i) key val ++ [l[i]] /\ (mapDel (l.take (i + 1)) key).any (fun x : KV => decide (key < x.Key)) = true := by
 unfold mapPutPre mapPut
 have hs := mapDel_step (key := key) hi
 rw [if_neg (by simp [h])] at hs
 rw [hs, hd, List.any_append, hd, insF_old hd]
 simp
theorem mapPut_new {l : List KV} {key : Int} {val : Int} {i : Nat} (hi : i < l.length) (h : (l[i].Key == key) = false) (hd : (mapDel (l.take i) key).any (fun x : KV => decide (key < x.Key)) = false) (hx : key < l[i].Key) : mapPutPre (l.take (i + 1)) key val = mapPutPre (l.take i) key val ++ [⟨key, val⟩] ++ [l[i]] /\ (mapDel (l.take (i + 1)) key).any (fun x : KV => decide (key < x.Key)) = true := by
 have hx' : (fun x : KV => decide (key < x.Key)) l[i] = true := by simpa using hx
 unfold mapPutPre mapPut
 have hs := mapDel_step (key := key) hi
 rw [if_neg (by simp [h])] at hs
 rw [hs, hd, List.any_append, hd, insF_new (p := (fun x : KV => decide (key < x.Key))) hx' hd]
 simp [hx]
theorem mapPut_low {l : List KV} {key : Int} {val : Int} {i : Nat} (hi : i < l.length) (h : (l[i].Key == key) = false) (hd : (mapDel (l.take i) key).any (fun x : KV => decide (key < x.Key)) = false) (hx : ¬ key < l[i].Key) : mapPutPre (l.take (i + 1)) key val = mapPutPre (l.take i) key val ++ [l[i]] /\ (mapDel (l.take (i + 1)) key).any (fun x : KV => decide (key < x.Key)) = false := by
 unfold mapPutPre mapPut
 have hs := mapDel_step (key := key) hi
 rw [if_neg (by simp [h])] at hs
 rw [hs, hd, List.any_append, hd]
 simp [hx]
theorem mapPut_end {l : List KV} {key : Int} {val : Int} : mapPut l key val = if (mapDel l key).any (fun x : KV => decide (key < x.Key)) then mapPutPre l key val else mapPutPre l key val ++ [⟨key, val⟩] := by
 unfold mapPutPre mapPut
 split
 ·rfl
 ·rename_i h
  rw [insF_not (by simpa using h)]
def writeDel (l : List Write) (key : Int) : List Write := l.filter fun x => !(x.Key == key)
theorem writeDel_len (l : List Write) (key : Int) : (writeDel l key).length <= l.length := List.length_filter_le ..
theorem writeDel_step {l : List Write} {key : Int} {i : Nat} (hi : i < l.length) : writeDel (l.take (i + 1)) key = if l[i].Key == key then writeDel (l.take i) key else writeDel (l.take i) key ++ [l[i]] := by
 unfold writeDel
 rw [List.take_succ_eq_append_getElem hi, List.filter_append, List.filter_cons]
 cases l[i].Key == key <;> simp
def writePut (l : List Write) (w : Write) : List Write := insF (fun x : Write => decide (w.Key < x.Key)) ⟨w.Key, w.Del, w.Val⟩ (writeDel l w.Key)
theorem writePut_len (l : List Write) (w : Write) : (writePut l w).length <= l.length + 1 := by
 unfold writePut
 rw [insF_len]
 have := writeDel_len l w.Key
 omega
def writePutPre (l : List Write) (w : Write) : List Write := if (writeDel l w.Key).any (fun x : Write => decide (w.Key < x.Key)) then writePut l w else writeDel l w.Key
theorem writePutPre_len (l : List Write) (w : Write) : (writePutPre l w).length <= l.length + 1 := by
 unfold writePutPre
 have h1 := writePut_len l w
 have h2 := writeDel_len l w.Key
 split <;> omega
theorem writePut_skip {l : List Write} {w : Write} {i : Nat} (hi : i < l.length) (h : (l[i].Key == w.Key) = true) : writePutPre (l.take (i + 1)) w = writePutPre (l.take i) w /\ (writeDel (l.take (i + 1)) w.Key).any (fun x : Write => decide (w.Key < x.Key)) = (writeDel (l.take i) w.Key).any (fun x : Write => decide (w.Key < x.Key)) := by
 unfold writePutPre writePut
 rw [writeDel_step hi, if_pos h]
 exact ⟨rfl, rfl⟩
theorem writePut_old {l : List Write} {w : Write} {i : Nat} (hi : i < l.length) (h : (l[i].Key == w.Key) = false) (hd : (writeDel (l.take i) w.Key).any (fun x : Write => decide (w.Key < x.Key)) = true) : writePutPre (l.take (i + 1)) w = writePutPre (l.take i) w ++ [l[i]] /\ (writeDel (l.take (i + 1)) w.Key).any (fun x : Write => decide (w.Key < x.Key)) = true := by
 unfold writePutPre writePut
 have hs := writeDel_step (key := w.Key) hi
 rw [if_neg (by simp [h])] at hs
 rw [hs, hd, List.any_append, hd, insF_old hd]
 simp
theorem writePut_new {l : List Write} {w : Write} {i : Nat} (hi : i < l.length) (h : (l[i].Key == w.Key) = false) (hd : (writeDel (l.take i) w.Key).any (fun x : Write => decide (w.Key < x.Key)) = false) (hx : w.Key < l[i].Key) : writePutPre (l.take (i + 1)) w = writePutPre (l.take i) w ++ [⟨w.Key, w.Del, w.Val⟩] ++ [l[i]] /\ (writeDel (l.take (i + 1)) w.Key).any (fun x : Write => decide (w.Key < x.Key)) = true := by
 have hx' : (fun x : Write => decide (w.Key < x.Key)) l[i] = true := by simpa using hx
 unfold writePutPre writePut
 have hs := writeDel_step (key := w.Key) hi
 rw [if_neg (by simp [h])] at hs
 rw [hs, hd, List.any_append, hd, insF_new (p := (fun x : Write => decide (w.Key < x.Key))) hx' hd]
 simp [hx]
theorem writePut_low {l : List Write} {w : Write} {i : Nat} (hi : i < l.length) (h : (l[i].Key == w.Key) = false) (hd : (writeDel (l.take i) w.Key).any (fun x : Write => decide (w.Key < x.Key)) = false) (hx : ¬ w.Key < l[i].Key) : writePutPre (l.take (i + 1)) w = writePutPre (l.take i) w ++ [l[i]] /\ (writeDel (l.take (i + 1)) w.Key).any (fun x : Write => decide (w.Key < x.Key)) = false := by
 unfold writePutPre writePut
 have hs := writeDel_step (key := w.Key) hi
 rw [if_neg (by simp [h])] at hs
 rw [hs, hd, List.any_append, hd]
 simp [hx]
theorem writePut_end {l : List Write} {w : Write} : writePut l w = if (writeDel l w.Key).any (fun x : Write => decide (w.Key < x.Key)) then writePutPre l w else writePutPre l w ++ [⟨w.Key, w.Del, w.Val⟩] := by
 unfold writePutPre writePut
 split
 ·rfl
 ·rename_i h
  rw [insF_not (by simpa using h)]
theorem c49 (x : KV) (key : Int) : Ctr prog 49 [.agg ((encKV x).map .dat), .one (.ptr (.ro 1 [[.int .i64 key]] 0 0))] [] (.one (.dat (.bool (decide (key < x.Key))))) [] := by
 simp only [encKV, List.map_cons, List.map_nil]
 refine Ctr.bd mixed func49 rfl ?_
 refine evl ?_
 refine Fin.nt results49 [] ?_ ?_ ?_ <;> try trivial
theorem c18 (l : List KV) (hl : l.length <= 16777216) (key val : Int) : Ctr prog 18 [.one (.dat (.sl 2 (l.map encKV))), .one (.dat (.int .i64 key)), .one (.dat (.int .i64 val))] [] (.one (.own 0)) [.vec 2 true ((mapPut l key val).map encKV)] := by
 have hm := mapDel_len l key
 have hm' : (mapDel l key).length <= maxLen := Nat.le_trans (Nat.le_trans hm hl) (by decide)
 refine Ctr.bd mixed func18 rfl ?_
 refine evl ?_
 refine CallK_pure e19 (c19 l hl key) rfl ?_
 refine evl ?_
 refine CallK_pure e48 (c48 (mapDel l key) hm' e49 (fun x => c49 x key)) rfl ?_
 rcases ixF_cases (fun x : KV => decide (key < x.Key)) (mapDel l key) with ⟨e, hno⟩ | ⟨i, hi, e, hp, hno⟩
 ·rw [e]
  refine evl ?_
  refine ⟨by simp [D.flat], ?_⟩
  refine CallK_os [1, 2] e50 (by simp [osOk, St.obj, find]) (c50 (mapDel l key) (mapDel l key).length (by omega) ⟨key, val⟩ (by omega)) rfl ?_
  rw [insF_end (p := fun x : KV => decide (key < x.Key)) (y := ⟨key, val⟩) hno]
  refine evl ?_
  refine Fin.nt results18 [3] ?_ ?_ ?_ <;> try trivial
  all_goals (simp [objsLe, envLe, find, St.obj, AObj.renF, AV.renF, AV.renF1, Leaf.renF, LowAll, AV.Low, AV.Low1, Leaf.Low, AObj.Low, Ptr.renF, Ptr.Low]; try rfl)
 ·rw [e]
  have hnn : decide ((i : Int) < 0) = false := by simp
  simp (maxSteps := 2000000) only [go_sem, seval, hnn]
  refine ⟨by simp [D.flat], ?_⟩
  refine CallK_os [1, 2] e50 (by simp [osOk, St.obj, find]) (c50 (mapDel l key) i (by omega) ⟨key, val⟩ (by omega)) rfl ?_
  rw [insF_at (p := fun x : KV => decide (key < x.Key)) (y := ⟨key, val⟩) hi hp hno]
  refine evl ?_
  refine Fin.nt results18 [3] ?_ ?_ ?_ <;> try trivial
  all_goals (simp [objsLe, envLe, find, St.obj, AObj.renF, AV.renF, AV.renF1, Leaf.renF, LowAll, AV.Low, AV.Low1, Leaf.Low, AObj.Low, Ptr.renF, Ptr.Low]; try rfl)
theorem c61 (x : Write) (w : Write) : Ctr prog 61 [.agg ((encWrite x).map .dat), .one (.ptr (.ro 3 [[.int .i64 w.Key, .bool w.Del, .int .i64 w.Val]] 0 0))] [] (.one (.dat (.bool (x.Key == w.Key)))) [] := by
 simp only [encWrite, List.map_cons, List.map_nil]
 refine Ctr.bd mixed func61 rfl ?_
 refine evl ?_
 refine Fin.nt results61 [] ?_ ?_ ?_ <;> try trivial
theorem c63 (x : Write) (w : Write) : Ctr prog 63 [.agg ((encWrite x).map .dat), .one (.ptr (.ro 3 [[.int .i64 w.Key, .bool w.Del, .int .i64 w.Val]] 0 0))] [] (.one (.dat (.bool (decide (w.Key < x.Key))))) [] := by
 simp only [encWrite, List.map_cons, List.map_nil]
 refine Ctr.bd mixed func63 rfl ?_
 refine evl ?_
 refine Fin.nt results63 [] ?_ ?_ ?_ <;> try trivial
theorem c30 (l : List Write) (hl : l.length <= 16777216) (w : Write) : Ctr prog 30 [.one (.dat (.sl 3 (l.map encWrite))), .agg ((encWrite w).map .dat)] [] (.one (.own 0)) [.vec 3 true ((writePut l w).map encWrite)] := by
 have hm := writeDel_len l w.Key
 have hm' : (writeDel l w.Key).length <= maxLen := Nat.le_trans (Nat.le_trans hm hl) (by decide)
 simp only [encWrite, List.map_cons, List.map_nil]
 refine Ctr.bd mixed func30 rfl ?_
 refine evl ?_
 refine CallK_pure e60 (c60 l hl) rfl ?_
 refine evl ?_
 refine CallK_os [1] e59 (by simp [osOk, St.obj, find]) (c59 l hl e61 (fun x => c61 x w)) rfl ?_
 rw [show (l.filter fun x => !(x.Key == w.Key)) = writeDel l w.Key from rfl]
 refine evl ?_
 refine CallK_pure e62 (c62 (writeDel l w.Key) hm' e63 (fun x => c63 x w)) rfl ?_
 rcases ixF_cases (fun x : Write => decide (w.Key < x.Key)) (writeDel l w.Key) with ⟨e, hno⟩ | ⟨i, hi, e, hp, hno⟩
 ·rw [e]
  refine evl ?_
  refine ⟨by simp [D.flat], ?_⟩
  refine CallK_os [2, 3] e64 (by simp [osOk, St.obj, find]) (c64 (writeDel l w.Key) (writeDel l w.Key).length (by omega) ⟨w.Key, w.Del, w.Val⟩ (by omega)) rfl ?_
  rw [insF_end (p := fun x : Write => decide (w.Key < x.Key)) (y := ⟨w.Key, w.Del, w.Val⟩) hno]
  refine evl ?_
  refine Fin.nt results30 [4] ?_ ?_ ?_ <;> try trivial
  all_goals (simp [objsLe, envLe, find, St.obj, AObj.renF, AV.renF, AV.renF1, Leaf.renF, LowAll, AV.Low, AV.Low1, Leaf.Low, AObj.Low, Ptr.renF, Ptr.Low]; try rfl)
 ·rw [e]
  have hnn : decide ((i : Int) < 0) = false := by simp
  simp (maxSteps := 2000000) only [go_sem, seval, hnn]
  refine ⟨by simp [D.flat], ?_⟩
  refine CallK_os [2, 3] e64 (by simp [osOk, St.obj, find]) (c64 (writeDel l w.Key) i (by omega) ⟨w.Key, w.Del, w.Val⟩ (by omega)) rfl ?_
  rw [insF_at (p := fun x : Write => decide (w.Key < x.Key)) (y := ⟨w.Key, w.Del, w.Val⟩) hi hp hno]
  refine evl ?_
  refine Fin.nt results30 [4] ?_ ?_ ?_ <;> try trivial
  all_goals (simp [objsLe, envLe, find, St.obj, AObj.renF, AV.renF, AV.renF1, Leaf.renF, LowAll, AV.Low, AV.Low1, Leaf.Low, AObj.Low, Ptr.renF, Ptr.Low]; try rfl)
def wr1 (m : List KV) (x : Write) : List KV := if x.Del then mapDel m x.Key else mapPut m x.Key x.Val
def applyWrites (l : List KV) (w : List Write) : List KV := w.foldl wr1 l
theorem wr1_len (m : List KV) (x : Write) : (wr1 m x).length <= m.length + 1 := by
 unfold wr1
 have h1 := mapDel_len m x.Key
 have h2 := mapPut_len m x.Key x.Val
 split <;> omega
theorem applyWrites_len (l : List KV) : ∀ w : List Write, (applyWrites l w).length <= l.length + w.length := by
 intro w
 induction w generalizing l with
 | nil => simp [applyWrites]
 | cons x w ih =>
  have h := ih (wr1 l x)
  have h1 := wr1_len l x
  have e : applyWrites l (x :: w) = applyWrites (wr1 l x) w := rfl
  rw [e, List.length_cons]
  omega
theorem applyWrites_step {l : List KV} {w : List Write} {i : Nat} (h : i < w.length) : applyWrites l (w.take (i + 1)) = wr1 (applyWrites l (w.take i)) w[i] := by
 unfold applyWrites
 rw [List.take_succ_eq_append_getElem h, List.foldl_append]
 rfl
theorem c37 (l : List KV) (hl : l.length <= 1048576) (w : List Write) (hw : w.length <= 1048576) : Ctr prog 37 [.one (.dat (.sl 2 (l.map encKV))), .one (.dat (.sl 3 (w.map encWrite)))] [] (.one (.own 0)) [.vec 2 true ((applyWrites l w).map encKV)] := by
 have hw' : w.length <= maxLen := Nat.le_trans hw (by decide)
 refine Ctr.bd mixed func37 rfl ?_
 refine evl ?_
 refine CallK_pure e52 (c52 l (by omega)) rfl ?_
 refine evl ?_
 refine LoopK_intro (fun n s => ∃ i : Nat, i <= w.length /\ n = w.length - i /\ s = mkSt [(12, .one (.dat (.int .i64 i))), (11, .one (.dat (.int .i64 w.length))), (10, .one (.dat (.sl 3 (w.map encWrite)))), (5, .one (.own 0))] [.vec 2 true ((applyWrites l (w.take i)).map encKV)]) w.length _
  (Ent.weak (ids := [0]) (by simp) rfl (by simp) (by simp [objsLe, envLe, find, St.obj, AObj.renF, AV.renF, AV.renF1, Leaf.renF, LowAll, AV.Low, AV.Low1, Leaf.Low, AObj.Low, Ptr.renF, Ptr.Low]; try simp [applyWrites]) (by simp [objsLe, envLe, find, St.obj, AObj.renF, AV.renF, AV.renF1, Leaf.renF, LowAll, AV.Low, AV.Low1, Leaf.Low, AObj.Low, Ptr.renF, Ptr.Low]) (by simp [objsLe, envLe, find, St.obj, AObj.renF, AV.renF, AV.renF1, Leaf.renF, LowAll, AV.Low, AV.Low1, Leaf.Low, AObj.Low, Ptr.renF, Ptr.Low])) ⟨0, by omega, by omega, rfl⟩ ?_
 rintro n s ⟨i, hi, rfl, rfl⟩ K hK
 have hm := applyWrites_len l (w.take i)
 rw [List.length_take, Nat.min_eq_left hi] at hm
 rcases Nat.lt_or_ge i w.length with hlt | hge
 ·have hdi : decide ((i : Int) < w.length) = true := by simpa using hlt
  have hwr := wrap_succ hlt hw'
  have hstep := applyWrites_step (l := l) hlt
  cases hd : w[i].Del with
  | true =>
   rw [wr1, hd, if_pos rfl] at hstep
   simp (maxSteps := 2000000) only [go_sem, seval, hdi, hwr, getD_map hlt, encWrite, hd]
   refine ⟨⟨by omega, by omega⟩, hlt, ?_⟩
   refine ck e19 (c19 (applyWrites l (w.take i)) (by omega) w[i].Key) rfl ?_
   simp (maxSteps := 2000000) only [go_sem, seval, hwr]
   apply hK
   exact ⟨w.length - (i + 1), _, by omega, Ent.weak (ids := [2]) (by simp) rfl (by simp) (by rw [hstep]; simp [objsLe, envLe, find, St.obj, AObj.renF, AV.renF, AV.renF1, Leaf.renF, LowAll, AV.Low, AV.Low1, Leaf.Low, AObj.Low, Ptr.renF, Ptr.Low]) (by simp [objsLe, envLe, find, St.obj, AObj.renF, AV.renF, AV.renF1, Leaf.renF, LowAll, AV.Low, AV.Low1, Leaf.Low, AObj.Low, Ptr.renF, Ptr.Low]) (by simp [objsLe, envLe, find, St.obj, AObj.renF, AV.renF, AV.renF1, Leaf.renF, LowAll, AV.Low, AV.Low1, Leaf.Low, AObj.Low, Ptr.renF, Ptr.Low]), i + 1, by omega, rfl, rfl⟩
  | false =>
   rw [wr1, hd, if_neg (by simp)] at hstep
   simp (maxSteps := 2000000) only [go_sem, seval, hdi, hwr, getD_map hlt, encWrite, hd]
   refine ⟨⟨by omega, by omega⟩, hlt, ?_⟩
   refine ck e18 (c18 (applyWrites l (w.take i)) (by omega) w[i].Key w[i].Val) rfl ?_
   simp (maxSteps := 2000000) only [go_sem, seval, hwr]
   apply hK
   exact ⟨w.length - (i + 1), _, by omega, Ent.weak (ids := [2]) (by simp) rfl (by simp) (by rw [hstep]; simp [objsLe, envLe, find, St.obj, AObj.renF, AV.renF, AV.renF1, Leaf.renF, LowAll, AV.Low, AV.Low1, Leaf.Low, AObj.Low, Ptr.renF, Ptr.Low]) (by simp [objsLe, envLe, find, St.obj, AObj.renF, AV.renF, AV.renF1, Leaf.renF, LowAll, AV.Low, AV.Low1, Leaf.Low, AObj.Low, Ptr.renF, Ptr.Low]) (by simp [objsLe, envLe, find, St.obj, AObj.renF, AV.renF, AV.renF1, Leaf.renF, LowAll, AV.Low, AV.Low1, Leaf.Low, AObj.Low, Ptr.renF, Ptr.Low]), i + 1, by omega, rfl, rfl⟩
 ·have hge' : i = w.length := by omega
  subst hge'
  have hdi : decide ((w.length : Int) < w.length) = false := by simp
  rw [List.take_length]
  refine sv1 ?_
  apply hK
  refine evl ?_
  refine Fin.nt results37 [0] ?_ ?_ ?_ <;> try trivial
  all_goals exact entd
theorem c32 (l : List KV) (hl : l.length <= 16777216) (key val : Int) : Ctr prog 32 [.one (.dat (.sl 2 (l.map encKV))), .one (.dat (.int .i64 key)), .one (.dat (.int .i64 val))] [] (.one (.own 0)) [.vec 2 true ((mapPut l key val).map encKV)] := by
 have hl' : l.length <= maxLen := Nat.le_trans hl (by decide)
 refine Ctr.bd mixed func32 rfl ?_
 refine evl ?_
 refine ⟨by simp, ?_⟩
 refine LoopK_intro (fun n s => ∃ i : Nat, i <= l.length /\ n = l.length - i /\ s = mkSt [(9, .one (.dat (.int .i64 i))), (8, .one (.dat (.bool ((mapDel (l.take i) key).any (fun x : KV => decide (key < x.Key)))))), (7, .one (.own 0)), (2, .one (.dat (.int .i64 val))), (1, .one (.dat (.int .i64 key))), (0, .one (.dat (.sl 2 (l.map encKV))))] [.vec 2 true ((mapPutPre (l.take i) key val).map encKV)]) l.length _
  (Ent.weak (ids := [0]) (by simp) rfl (by simp) (by simp [objsLe, envLe, find, St.obj, AObj.renF, AV.renF, AV.renF1, Leaf.renF, LowAll, AV.Low, AV.Low1, Leaf.Low, AObj.Low, Ptr.renF, Ptr.Low]; try simp [mapPutPre, mapDel]) (by simp [objsLe, envLe, find, St.obj, AObj.renF, AV.renF, AV.renF1, Leaf.renF, LowAll, AV.Low, AV.Low1, Leaf.Low, AObj.Low, Ptr.renF, Ptr.Low]; try simp [mapDel]) (by simp [objsLe, envLe, find, St.obj, AObj.renF, AV.renF, AV.renF1, Leaf.renF, LowAll, AV.Low, AV.Low1, Leaf.Low, AObj.Low, Ptr.renF, Ptr.Low])) ⟨0, by omega, by omega, rfl⟩ ?_
 rintro n s ⟨i, hi, rfl, rfl⟩ K hK
 have hm := mapPutPre_len (l.take i) key val
 rw [List.length_take, Nat.min_eq_left hi] at hm
 rcases Nat.lt_or_ge i l.length with hlt | hge
 ·have hdi : decide ((i : Int) < l.length) = true := by simpa using hlt
  have hw := wrap_succ hlt hl'
  have hf1 : ∀ r ∈ [encKV l[i]], ∀ d ∈ r, d.flat = true := by simp [encKV, D.flat]
  have hf2 : ∀ r ∈ [encKV ⟨key, val⟩], ∀ d ∈ r, d.flat = true := by simp [encKV, D.flat]
  cases hkey : (l[i].Key == key) with
  | true =>
   simp (maxSteps := 2000000) only [go_sem, seval, hdi, hw, getD_map hlt, encKV, List.length_append, hkey]
   obtain ⟨s1, s2⟩ := mapPut_skip (key := key) (val := val) hlt hkey
   refine ⟨⟨by omega, by omega⟩, hlt, ?_⟩
   apply hK
   exact ⟨l.length - (i + 1), _, by omega, Ent.weak (ids := [0]) (by simp) rfl (by simp) (by rw [s1]; simp [objsLe, envLe, find, St.obj, AObj.renF, AV.renF, AV.renF1, Leaf.renF, LowAll, AV.Low, AV.Low1, Leaf.Low, AObj.Low, Ptr.renF, Ptr.Low]) (by rw [s2]; simp [objsLe, envLe, find, St.obj, AObj.renF, AV.renF, AV.renF1, Leaf.renF, LowAll, AV.Low, AV.Low1, Leaf.Low, AObj.Low, Ptr.renF, Ptr.Low]) (by simp [objsLe, envLe, find, St.obj, AObj.renF, AV.renF, AV.renF1, Leaf.renF, LowAll, AV.Low, AV.Low1, Leaf.Low, AObj.Low, Ptr.renF, Ptr.Low]), i + 1, by omega, rfl, rfl⟩
  | false =>
   cases hd : (mapDel (l.take i) key).any (fun x : KV => decide (key < x.Key)) with
   | true =>
    simp (maxSteps := 2000000) only [go_sem, seval, hdi, hw, getD_map hlt, encKV, List.length_append, hkey, hd]
    obtain ⟨s1, s2⟩ := mapPut_old (key := key) (val := val) hlt hkey hd
    repeat' ((with_reducible show _ /\ _); apply And.intro)
    all_goals first
     | (apply hK
        exact ⟨l.length - (i + 1), _, by omega, Ent.weak (ids := [2]) (by simp) rfl (by simp) (by rw [s1]; simp [objsLe, envLe, find, St.obj, AObj.renF, AV.renF, AV.renF1, Leaf.renF, LowAll, AV.Low, AV.Low1, Leaf.Low, AObj.Low, Ptr.renF, Ptr.Low]; try rfl) (by rw [s2]; simp [objsLe, envLe, find, St.obj, AObj.renF, AV.renF, AV.renF1, Leaf.renF, LowAll, AV.Low, AV.Low1, Leaf.Low, AObj.Low, Ptr.renF, Ptr.Low]) (by simp [objsLe, envLe, find, St.obj, AObj.renF, AV.renF, AV.renF1, Leaf.renF, LowAll, AV.Low, AV.Low1, Leaf.Low, AObj.Low, Ptr.renF, Ptr.Low]), i + 1, by omega, rfl, rfl⟩)
     | (with_reducible exact hlt)
     | (with_reducible rfl)
     | exact (rfl : D.flat (.int _ _) = true)
     | exact (rfl : D.flat (.bool _) = true)
     | exact List.nodup_nil
     | exact List.not_mem_nil
     | omega
     | exact hf1
     | exact hf2
   | false =>
    by_cases hx : key < l[i].Key
    ·have hxd : decide (key < l[i].Key) = true := by simpa using hx
     simp (maxSteps := 2000000) only [go_sem, seval, hdi, hw, getD_map hlt, encKV, List.length_append, hkey, hd, hxd]
     obtain ⟨s1, s2⟩ := mapPut_new (key := key) (val := val) hlt hkey hd hx
     repeat' ((with_reducible show _ /\ _); apply And.intro)
     all_goals first
      | (apply hK
         exact ⟨l.length - (i + 1), _, by omega, Ent.weak (ids := [4]) (by simp) rfl (by simp) (by rw [s1]; simp [objsLe, envLe, find, St.obj, AObj.renF, AV.renF, AV.renF1, Leaf.renF, LowAll, AV.Low, AV.Low1, Leaf.Low, AObj.Low, Ptr.renF, Ptr.Low]; try simp [encKV]) (by rw [s2]; simp [objsLe, envLe, find, St.obj, AObj.renF, AV.renF, AV.renF1, Leaf.renF, LowAll, AV.Low, AV.Low1, Leaf.Low, AObj.Low, Ptr.renF, Ptr.Low]) (by simp [objsLe, envLe, find, St.obj, AObj.renF, AV.renF, AV.renF1, Leaf.renF, LowAll, AV.Low, AV.Low1, Leaf.Low, AObj.Low, Ptr.renF, Ptr.Low]), i + 1, by omega, rfl, rfl⟩)
      | (with_reducible exact hlt)
      | (with_reducible rfl)
      | exact (rfl : D.flat (.int _ _) = true)
      | exact (rfl : D.flat (.bool _) = true)
      | exact List.nodup_nil
      | exact List.not_mem_nil
      | omega
      | exact hf1
      | exact hf2
    ·have hxd : decide (key < l[i].Key) = false := by simpa using hx
     simp (maxSteps := 2000000) only [go_sem, seval, hdi, hw, getD_map hlt, encKV, List.length_append, hkey, hd, hxd]
     obtain ⟨s1, s2⟩ := mapPut_low (key := key) (val := val) hlt hkey hd hx
     repeat' ((with_reducible show _ /\ _); apply And.intro)
     all_goals first
      | (apply hK
         exact ⟨l.length - (i + 1), _, by omega, Ent.weak (ids := [2]) (by simp) rfl (by simp) (by rw [s1]; simp [objsLe, envLe, find, St.obj, AObj.renF, AV.renF, AV.renF1, Leaf.renF, LowAll, AV.Low, AV.Low1, Leaf.Low, AObj.Low, Ptr.renF, Ptr.Low]; try rfl) (by rw [s2]; simp [objsLe, envLe, find, St.obj, AObj.renF, AV.renF, AV.renF1, Leaf.renF, LowAll, AV.Low, AV.Low1, Leaf.Low, AObj.Low, Ptr.renF, Ptr.Low]) (by simp [objsLe, envLe, find, St.obj, AObj.renF, AV.renF, AV.renF1, Leaf.renF, LowAll, AV.Low, AV.Low1, Leaf.Low, AObj.Low, Ptr.renF, Ptr.Low]), i + 1, by omega, rfl, rfl⟩)
      | (with_reducible exact hlt)
      | (with_reducible rfl)
      | exact (rfl : D.flat (.int _ _) = true)
      | exact (rfl : D.flat (.bool _) = true)
      | exact List.nodup_nil
      | exact List.not_mem_nil
      | omega
      | exact hf1
      | exact hf2
 ·have hge' : i = l.length := by omega
  subst hge'
  have hdi : decide ((l.length : Int) < l.length) = false := by simp
  rw [List.take_length] at hm ⊢
  rw [mapPut_end] at hK
  cases hd : (mapDel l key).any (fun x : KV => decide (key < x.Key)) with
  | true =>
   rw [hd, if_pos rfl] at hK
   refine sv1 ?_
   apply hK
   refine evl ?_
   refine Fin.nt results32 [0] ?_ ?_ ?_ <;> try trivial
   all_goals exact entd
  | false =>
   rw [hd, if_neg (by simp)] at hK
   refine sv1 ?_
   apply hK
   refine evl ?_
   refine ⟨⟨by simp [D.flat], by simp⟩, ⟨by simp [D.flat], by simp, by omega, by omega⟩, ?_⟩
   refine Fin.nt results32 [2] ?_ ?_ ?_ <;> try trivial
   all_goals (simp [objsLe, envLe, find, St.obj, AObj.renF, AV.renF, AV.renF1, Leaf.renF, LowAll, AV.Low, AV.Low1, Leaf.Low, AObj.Low, Ptr.renF, Ptr.Low]; try simp [encKV])
def cmdDo (l : List KV) (c : Cmd) : List KV × Res :=
 if mapOk l && cmdOk c.Kind c.Key c.Val then
  if c.Kind = 1 then (l, ⟨(mapGet c.Key l).2, (mapGet c.Key l).1⟩)
  else if c.Kind = 2 then (mapPut l c.Key c.Val, ⟨false, 0⟩)
  else if c.Kind = 3 then (mapDel l c.Key, ⟨false, 0⟩)
  else (mapPut l c.Key (((mapGet c.Key l).1 + c.Val) % 65536), ⟨true, ((mapGet c.Key l).1 + c.Val) % 65536⟩)
 else (l, ⟨false, 0⟩)
theorem cmdDo_len (l : List KV) (c : Cmd) : (cmdDo l c).1.length <= l.length + 1 := by
 unfold cmdDo
 have h1 := mapPut_len l c.Key c.Val
 have h2 := mapDel_len l c.Key
 have h3 := mapPut_len l c.Key (((mapGet c.Key l).1 + c.Val) % 65536)
 repeat' split
 all_goals simp only <;> omega
theorem mapGet_in (key : Int) : ∀ {l : List KV}, (∀ x ∈ l, 0 <= x.Val /\ x.Val <= 65535) -> 0 <= (mapGet key l).1 /\ (mapGet key l).1 <= 65535
 | [], _ => by simp [mapGet]
 | x :: l, h => by
  unfold mapGet
  split
  ·exact h x (by simp)
  ·exact mapGet_in key fun y hy => h y (by simp [hy])
theorem mapOk_vals {l : List KV} (h : mapOk l = true) : ∀ x ∈ l, 0 <= x.Val /\ x.Val <= 65535 := fun x hx => by
 obtain ⟨j, hj, rfl⟩ := List.getElem_of_mem hx
 simp only [mapOk, List.all_eq_true, List.mem_range] at h
 have := h j hj
 simp only [mapGood, Bool.and_eq_true] at this
 have h2 := this.1.2
 rw [List.getD_eq_getElem?_getD, List.getElem?_eq_getElem hj, Option.getD_some] at h2
 simpa [within] using h2
theorem cmdDo_bad {l : List KV} {c : Cmd} (h : (mapOk l && cmdOk c.Kind c.Key c.Val) = false) : cmdDo l c = (l, ⟨false, 0⟩) := by
 unfold cmdDo; rw [h]; rfl
theorem cmdOk_kind {k x v : Int} (h : cmdOk k x v = true) : (k = 1 \/ k = 2 \/ k = 3 \/ k = 4) /\ (k = 4 -> 0 <= v /\ v <= 65535) := by
 simp only [cmdOk, within, Bool.and_eq_true, Bool.or_eq_true, decide_eq_true_eq, beq_iff_eq] at h
 refine ⟨by omega, fun h4 => ?_⟩
 omega
def cmdsGo (l : List KV) (o : List Res) : List Cmd -> List KV × List Res
 | [] => (l, o)
 | c :: r => cmdsGo (cmdDo l c).1 (o ++ [(cmdDo l c).2]) r
def cmdsDo (l : List KV) (cs : List Cmd) : List KV × List Res := cmdsGo l [] cs
theorem cmdsGo_len : ∀ (r : List Cmd) (l : List KV) (o : List Res), (cmdsGo l o r).1.length <= l.length + r.length /\ (cmdsGo l o r).2.length = o.length + r.length
 | [], l, o => by simp [cmdsGo]
 | c :: r, l, o => by
  unfold cmdsGo
  have h := cmdsGo_len r (cmdDo l c).1 (o ++ [(cmdDo l c).2])
  have h2 := cmdDo_len l c
  simp at h ⊢
  omega
theorem cmdsDo_len (l : List KV) (cs : List Cmd) : (cmdsDo l cs).1.length <= l.length + cs.length /\ (cmdsDo l cs).2.length = cs.length := by
 have := cmdsGo_len cs l []; simpa [cmdsDo] using this
end Go.Proofs.Ytppbonemkipgeaa.Mod
