/- Contracts: Map. -/
import Derived.Test.YtjfpaiencojehaaRows
import Derived.Test.YtjfpaiencojehaaTy
import Derived.Test.YtjfpaiencojehaaAbsTac
import Derived.Test.YtjfpaiencojehaaAbsData
import Derived.Test.YtjfpaiencojehaaMNum
import Derived.Test.YtjfpaiencojehaaMSl
import Derived.WalkKit
import Derived.ProofKit
import Derived.OpenShut
namespace Go.Proofs.Ytjfpaiencojehaa.Mod
open Go.Abs Go.Proofs.Ytjfpaiencojehaa.Ty Go.ChangeShapes Go.WideShapes Go.ChangeAt Go.RowKit
set_option linter.unusedSimpArgs false
set_option linter.unusedVariables false
set_option maxHeartbeats 8000000
set_option maxRecDepth 100000
def mapGood (l : List KV) (i : Nat) : Bool := within (l.getD i ⟨0, 0⟩).Key 0 99 && within (l.getD i ⟨0, 0⟩).Val 0 65535 && (i == 0 || decide ((l.getD (i - 1) ⟨0, 0⟩).Key < (l.getD i ⟨0, 0⟩).Key))
def mapOk (l : List KV) : Bool := (List.range l.length).all (mapGood l)
theorem mapOk_true {l : List KV} (h : ∀ j, j < l.length → mapGood l j = true) : mapOk l = true := by simpa [mapOk] using h
theorem mapOk_false {l : List KV} {i : Nat} (h : i < l.length) (hb : mapGood l i = false) : mapOk l = false := by
  cases e : mapOk l
  · rfl
  · simp [mapOk] at e
    simp [e i h] at hb
theorem mapGood_eq {l : List KV} {i : Nat} (hlt : i < l.length) (h1 : i - 1 < l.length) : mapGood l i =
    !(bif (bif !within l[i].Key 0 99 then true else !within l[i].Val 0 65535) then true else bif decide ((0 : Int) < i) then decide (l[i].Key ≤ l[i - 1].Key) else false) := by
  unfold mapGood
  rw [List.getD_eq_getElem?_getD, List.getD_eq_getElem?_getD, List.getElem?_eq_getElem hlt, List.getElem?_eq_getElem h1, Option.getD_some, Option.getD_some]
  by_cases h : i = 0
  · subst h; simp
  · have h' : 0 < i := by omega
    have e : decide (l[i - 1].Key < l[i].Key) = !decide (l[i].Key ≤ l[i - 1].Key) := by
      by_cases hh : l[i].Key ≤ l[i - 1].Key
      · simp [hh]
      · simp [hh]; omega
    rw [e]
    cases within l[i].Key 0 99 <;> cases within l[i].Val 0 65535 <;> simp [h, h']
theorem c128 (l : List KV) (hl : l.length ≤ maxLen) : Ctr Try.prog 128 [.one (.dat (.sl 2 (l.map encKV)))] [] (.one (.dat (.bool (mapOk l)))) [] := by
  refine Ctr.bd mixed Try.func128 rfl ?_
  refine evl ?_
  refine LoopK_intro (fun n s => ∃ i : Nat, i ≤ l.length ∧ n = l.length - i ∧ (∀ j, j < i → mapGood l j = true) ∧ s = mkSt [(7, .one (.dat (.int .i64 i))), (6, .one (.dat (.int .i64 l.length))), (5, .one (.dat (.sl 2 (l.map encKV)))), (0, .one (.dat (.sl 2 (l.map encKV))))] []) l.length _
    (Ent.weak (ids := []) (by simp) rfl (by simp) ?_ ?_ ?_) ⟨0, by omega, by omega, by simp, rfl⟩ ?_
  · simp [objsLe, St.obj, find, AObj.renF]
  · simp [envLe, find, AV.renF, AV.renF1, Leaf.renF]
  · simp [LowAll, AV.Low, AV.Low1, Leaf.Low, AObj.Low]
  rintro n s ⟨i, hi, rfl, ht, rfl⟩ K hK
  refine evl ?_
  refine ⟨fun h => ?_, fun h => ?_⟩
  · have hlt : i < l.length := by simpa using h
    refine ⟨⟨by omega, by omega⟩, hlt, ?_⟩
    simp only [getD_map hlt, encKV, List.getD_cons_zero, List.getD_cons_succ, List.map_cons, List.map_nil, List.take_succ_cons, List.take_zero]
    have hlt1 : i - 1 < l.length := by omega
    repeat' first
    | ((with_reducible show Abs.Fin _ _ _ _ _ _); refine Fin.nt Try.results128 [] ?_ ?_ ?_ <;> try trivial)
    | ((first | ((with_reducible show CallK _ _ 144 _ _); refine CallK_pure e144 (c144 ..) rfl ?_) | ((with_reducible show CCallK _ _ _ _ 144 _ _); refine CCallK_plain e144 (c144 ..) rfl rfl ?_ ?_) | ((with_reducible show CCallK _ _ _ _ 144 _ _ ∨ _); refine Or.inl (CCallK_plain e144 (c144 ..) rfl rfl ?_ ?_))); simp (maxSteps := 2000000) only [go_sem, ↓reduceIte, reduceCtorEq, Nat.reduceAdd, Nat.reduceMul, Nat.reduceSub, Nat.reduceLT, Nat.reduceLeDiff, Nat.reduceEqDiff, Int.reduceToNat, Int.reduceLT, Int.reduceLE, Int.reduceNeg, getD_map hlt, encKV, pred_toNat hlt hl, getD_map hlt1, wrap_succ hlt hl])
    | with_reducible intro h
    | ((with_reducible show _ ∧ _); apply And.intro)
    all_goals try (first | assumption | exact True.intro | omega | (clear hK; simp_all; done))
    all_goals try (rw [wrap_pred hlt hl]; clear hK; simp at *; omega)
    · apply hK
      refine evl ?_
      refine Fin.nt Try.results128 [] ?_ ?_ ?_ <;> try trivial
      first | exact True.intro | (refine rsl ?_; try exact True.intro)
      exact (mapOk_false hlt (by rw [mapGood_eq hlt hlt1, h]; rfl)).symm
    · apply hK
      refine ⟨l.length - (i + 1), _, by omega, Ent.weak (ids := []) (by simp) rfl (by simp) (by simp [objsLe, envLe, find, St.obj, AObj.renF, AV.renF, AV.renF1, Leaf.renF, LowAll, AV.Low, AV.Low1, Leaf.Low, AObj.Low, Ptr.renF, Ptr.Low]) (by simp [objsLe, envLe, find, St.obj, AObj.renF, AV.renF, AV.renF1, Leaf.renF, LowAll, AV.Low, AV.Low1, Leaf.Low, AObj.Low, Ptr.renF, Ptr.Low]) (by simp [objsLe, envLe, find, St.obj, AObj.renF, AV.renF, AV.renF1, Leaf.renF, LowAll, AV.Low, AV.Low1, Leaf.Low, AObj.Low, Ptr.renF, Ptr.Low]), i + 1, by omega, rfl, fun j hj => ?_, rfl⟩
      by_cases e : j = i
      · subst e; rw [mapGood_eq hlt hlt1, h]; rfl
      · exact ht j (by omega)
  · have hge : i = l.length := by simp at h; omega
    subst hge
    apply hK
    refine evl ?_
    refine Fin.nt Try.results128 [] ?_ ?_ ?_ <;> try trivial
    first | exact True.intro | (refine rsl ?_; try exact True.intro)
    exact (mapOk_true ht).symm
theorem c122 (l : List KV) (hl : l.length ≤ maxLen) : Ctr Try.prog 122 [.one (.dat (.sl 2 (l.map encKV)))] [] (.one (.dat (.bool (mapOk l)))) [] := by
  refine Ctr.bd mixed Try.func122 rfl ?_
  refine evl ?_
  refine LoopK_intro (fun n s => ∃ i : Nat, i ≤ l.length ∧ n = l.length - i ∧ (∀ j, j < i → mapGood l j = true) ∧ s = mkSt [(3, .one (.dat (.int .i64 i))), (0, .one (.dat (.sl 2 (l.map encKV))))] []) l.length _
    (Ent.weak (ids := []) (by simp) rfl (by simp) ?_ ?_ ?_) ⟨0, by omega, by omega, by simp, rfl⟩ ?_
  · simp [objsLe, St.obj, find, AObj.renF]
  · simp [envLe, find, AV.renF, AV.renF1, Leaf.renF]
  · simp [LowAll, AV.Low, AV.Low1, Leaf.Low, AObj.Low]
  rintro n s ⟨i, hi, rfl, ht, rfl⟩ K hK
  refine evl ?_
  refine ⟨fun h => ?_, fun h => ?_⟩
  · have hlt : i < l.length := by simpa using h
    refine ⟨⟨by omega, by omega⟩, hlt, ?_⟩
    simp only [getD_map hlt, encKV, List.getD_cons_zero, List.getD_cons_succ]
    have hlt1 : i - 1 < l.length := by omega
    repeat' first
    | ((with_reducible show Abs.Fin _ _ _ _ _ _); refine Fin.nt Try.results122 [] ?_ ?_ ?_ <;> try trivial)
    | ((first | ((with_reducible show CallK _ _ 143 _ _); refine CallK_pure e143 (c143 ..) rfl ?_) | ((with_reducible show CCallK _ _ _ _ 143 _ _); refine CCallK_plain e143 (c143 ..) rfl rfl ?_ ?_) | ((with_reducible show CCallK _ _ _ _ 143 _ _ ∨ _); refine Or.inl (CCallK_plain e143 (c143 ..) rfl rfl ?_ ?_))); simp (maxSteps := 2000000) only [go_sem, ↓reduceIte, reduceCtorEq, Nat.reduceAdd, Nat.reduceMul, Nat.reduceSub, Nat.reduceLT, Nat.reduceLeDiff, Nat.reduceEqDiff, Int.reduceToNat, Int.reduceLT, Int.reduceLE, Int.reduceNeg, getD_map hlt, encKV, pred_toNat hlt hl, getD_map hlt1, wrap_succ hlt hl])
    | with_reducible intro h
    | ((with_reducible show _ ∧ _); apply And.intro)
    all_goals try (first | assumption | exact True.intro | omega | (clear hK; simp_all; done))
    all_goals try (rw [wrap_pred hlt hl]; clear hK; simp at *; omega)
    · apply hK
      refine evl ?_
      refine Fin.nt Try.results122 [] ?_ ?_ ?_ <;> try trivial
      first | exact True.intro | (refine rsl ?_; try exact True.intro)
      exact (mapOk_false hlt (by rw [mapGood_eq hlt hlt1, h]; rfl)).symm
    · apply hK
      refine ⟨l.length - (i + 1), _, by omega, Ent.weak (ids := []) (by simp) rfl (by simp) (by simp [objsLe, envLe, find, St.obj, AObj.renF, AV.renF, AV.renF1, Leaf.renF, LowAll, AV.Low, AV.Low1, Leaf.Low, AObj.Low, Ptr.renF, Ptr.Low]) (by simp [objsLe, envLe, find, St.obj, AObj.renF, AV.renF, AV.renF1, Leaf.renF, LowAll, AV.Low, AV.Low1, Leaf.Low, AObj.Low, Ptr.renF, Ptr.Low]) (by simp [objsLe, envLe, find, St.obj, AObj.renF, AV.renF, AV.renF1, Leaf.renF, LowAll, AV.Low, AV.Low1, Leaf.Low, AObj.Low, Ptr.renF, Ptr.Low]), i + 1, by omega, rfl, fun j hj => ?_, rfl⟩
      by_cases e : j = i
      · subst e; rw [mapGood_eq hlt hlt1, h]; rfl
      · exact ht j (by omega)
  · have hge : i = l.length := by simp at h; omega
    subst hge
    apply hK
    refine evl ?_
    refine Fin.nt Try.results122 [] ?_ ?_ ?_ <;> try trivial
    first | exact True.intro | (refine rsl ?_; try exact True.intro)
    exact (mapOk_true ht).symm
def mapGet (key : Int) : List KV → Int × Bool
  | [] => (0, false)
  | x :: l => if x.Key = key then (x.Val, true) else mapGet key l
theorem c130 (l : List KV) (hl : l.length ≤ maxLen) (key : Int) : Ctr Try.prog 130 [.one (.dat (.sl 2 (l.map encKV))), .one (.dat (.int .i64 key))] [] (.tup [.one (.dat (.int .i64 (mapGet key l).1)), .one (.dat (.bool (mapGet key l).2))]) [] := by
  refine Ctr.bd mixed Try.func130 rfl ?_
  refine evl ?_
  refine LoopK_intro (fun n s => ∃ i : Nat, i ≤ l.length ∧ n = l.length - i ∧ mapGet key l = mapGet key (l.drop i) ∧ s = mkSt [(10, .one (.dat (.int .i64 i))), (9, .one (.dat (.int .i64 l.length))), (8, .one (.dat (.sl 2 (l.map encKV)))), (1, .one (.dat (.int .i64 key))), (0, .one (.dat (.sl 2 (l.map encKV))))] []) l.length _
    (Ent.weak (ids := []) (by simp) rfl (by simp) (by simp [objsLe, envLe, find, St.obj, AObj.renF, AV.renF, AV.renF1, Leaf.renF, LowAll, AV.Low, AV.Low1, Leaf.Low, AObj.Low, Ptr.renF, Ptr.Low]) (by simp [objsLe, envLe, find, St.obj, AObj.renF, AV.renF, AV.renF1, Leaf.renF, LowAll, AV.Low, AV.Low1, Leaf.Low, AObj.Low, Ptr.renF, Ptr.Low]) (by simp [objsLe, envLe, find, St.obj, AObj.renF, AV.renF, AV.renF1, Leaf.renF, LowAll, AV.Low, AV.Low1, Leaf.Low, AObj.Low, Ptr.renF, Ptr.Low])) ⟨0, by omega, by omega, by simp, rfl⟩ ?_
  rintro n s ⟨i, hi, rfl, ht, rfl⟩ K hK
  refine evl ?_
  refine ⟨fun h => ?_, fun h => ?_⟩
  · have hlt : i < l.length := by simpa using h
    rw [List.drop_eq_getElem_cons hlt, mapGet] at ht
    refine ⟨⟨by omega, by omega⟩, hlt, ?_⟩
    simp only [getD_map hlt, encKV, List.getD_cons_zero, List.getD_cons_succ, List.map_cons, List.map_nil, List.take_succ_cons, List.take_zero]
    simp (maxSteps := 2000000) only [go_sem, ↓reduceIte, reduceCtorEq, Nat.reduceAdd, Nat.reduceMul, Nat.reduceSub, Nat.reduceLT, Nat.reduceLeDiff, Nat.reduceEqDiff, Int.reduceToNat, Int.reduceLT, Int.reduceLE, Int.reduceNeg, getD_map hlt, encKV, wrap_succ hlt hl]
    repeat' first
    | ((with_reducible show Abs.Fin _ _ _ _ _ _); refine Fin.nt Try.results130 [] ?_ ?_ ?_ <;> try trivial)
    | with_reducible intro h
    | ((with_reducible show _ ∧ _); apply And.intro)
    all_goals try (first | assumption | exact True.intro | omega | (clear hK; simp_all; done))
    · apply hK
      have h' : l[i].Key = key := by simpa using h
      rw [if_pos h'] at ht
      refine evl ?_
      refine Fin.nt Try.results130 [] ?_ ?_ ?_ <;> try trivial
      first | exact True.intro | (refine rsl ?_; try exact True.intro)
      rw [ht]; exact ⟨rfl, rfl⟩
    · apply hK
      have h' : ¬ l[i].Key = key := by simpa using h
      rw [if_neg h'] at ht
      exact ⟨l.length - (i + 1), _, by omega, Ent.weak (ids := []) (by simp) rfl (by simp) (by simp [objsLe, envLe, find, St.obj, AObj.renF, AV.renF, AV.renF1, Leaf.renF, LowAll, AV.Low, AV.Low1, Leaf.Low, AObj.Low, Ptr.renF, Ptr.Low]) (by simp [objsLe, envLe, find, St.obj, AObj.renF, AV.renF, AV.renF1, Leaf.renF, LowAll, AV.Low, AV.Low1, Leaf.Low, AObj.Low, Ptr.renF, Ptr.Low]) (by simp [objsLe, envLe, find, St.obj, AObj.renF, AV.renF, AV.renF1, Leaf.renF, LowAll, AV.Low, AV.Low1, Leaf.Low, AObj.Low, Ptr.renF, Ptr.Low]), i + 1, by omega, rfl, ht, rfl⟩
  · have hge : i = l.length := by simp at h; omega
    subst hge
    rw [List.drop_length, mapGet] at ht
    apply hK
    refine evl ?_
    refine Fin.nt Try.results130 [] ?_ ?_ ?_ <;> try trivial
    first | exact True.intro | (refine rsl ?_; try exact True.intro)
    rw [ht]; exact ⟨rfl, rfl⟩
theorem c123 (l : List KV) (hl : l.length ≤ maxLen) (key : Int) : Ctr Try.prog 123 [.one (.dat (.sl 2 (l.map encKV))), .one (.dat (.int .i64 key))] [] (.tup [.one (.dat (.int .i64 (mapGet key l).1)), .one (.dat (.bool (mapGet key l).2))]) [] := by
  refine Ctr.bd mixed Try.func123 rfl ?_
  refine evl ?_
  refine LoopK_intro (fun n s => ∃ i : Nat, i ≤ l.length ∧ n = l.length - i ∧ mapGet key l = mapGet key (l.drop i) ∧ s = mkSt [(6, .one (.dat (.int .i64 i))), (1, .one (.dat (.int .i64 key))), (0, .one (.dat (.sl 2 (l.map encKV))))] []) l.length _
    (Ent.weak (ids := []) (by simp) rfl (by simp) (by simp [objsLe, envLe, find, St.obj, AObj.renF, AV.renF, AV.renF1, Leaf.renF, LowAll, AV.Low, AV.Low1, Leaf.Low, AObj.Low, Ptr.renF, Ptr.Low]) (by simp [objsLe, envLe, find, St.obj, AObj.renF, AV.renF, AV.renF1, Leaf.renF, LowAll, AV.Low, AV.Low1, Leaf.Low, AObj.Low, Ptr.renF, Ptr.Low]) (by simp [objsLe, envLe, find, St.obj, AObj.renF, AV.renF, AV.renF1, Leaf.renF, LowAll, AV.Low, AV.Low1, Leaf.Low, AObj.Low, Ptr.renF, Ptr.Low])) ⟨0, by omega, by omega, by simp, rfl⟩ ?_
  rintro n s ⟨i, hi, rfl, ht, rfl⟩ K hK
  refine evl ?_
  refine ⟨fun h => ?_, fun h => ?_⟩
  · have hlt : i < l.length := by simpa using h
    rw [List.drop_eq_getElem_cons hlt, mapGet] at ht
    refine ⟨⟨by omega, by omega⟩, hlt, ?_⟩
    simp only [getD_map hlt, encKV, List.getD_cons_zero, List.getD_cons_succ, List.map_cons, List.map_nil, List.take_succ_cons, List.take_zero]
    simp (maxSteps := 2000000) only [go_sem, ↓reduceIte, reduceCtorEq, Nat.reduceAdd, Nat.reduceMul, Nat.reduceSub, Nat.reduceLT, Nat.reduceLeDiff, Nat.reduceEqDiff, Int.reduceToNat, Int.reduceLT, Int.reduceLE, Int.reduceNeg, getD_map hlt, encKV, wrap_succ hlt hl]
    repeat' first
    | ((with_reducible show Abs.Fin _ _ _ _ _ _); refine Fin.nt Try.results123 [] ?_ ?_ ?_ <;> try trivial)
    | with_reducible intro h
    | ((with_reducible show _ ∧ _); apply And.intro)
    all_goals try (first | assumption | exact True.intro | omega | (clear hK; simp_all; done))
    · apply hK
      have h' : l[i].Key = key := by simpa using h
      rw [if_pos h'] at ht
      refine evl ?_
      refine Fin.nt Try.results123 [] ?_ ?_ ?_ <;> try trivial
      first | exact True.intro | (refine rsl ?_; try exact True.intro)
      rw [ht]; exact ⟨rfl, rfl⟩
    · apply hK
      have h' : ¬ l[i].Key = key := by simpa using h
      rw [if_neg h'] at ht
      exact ⟨l.length - (i + 1), _, by omega, Ent.weak (ids := []) (by simp) rfl (by simp) (by simp [objsLe, envLe, find, St.obj, AObj.renF, AV.renF, AV.renF1, Leaf.renF, LowAll, AV.Low, AV.Low1, Leaf.Low, AObj.Low, Ptr.renF, Ptr.Low]) (by simp [objsLe, envLe, find, St.obj, AObj.renF, AV.renF, AV.renF1, Leaf.renF, LowAll, AV.Low, AV.Low1, Leaf.Low, AObj.Low, Ptr.renF, Ptr.Low]) (by simp [objsLe, envLe, find, St.obj, AObj.renF, AV.renF, AV.renF1, Leaf.renF, LowAll, AV.Low, AV.Low1, Leaf.Low, AObj.Low, Ptr.renF, Ptr.Low]), i + 1, by omega, rfl, ht, rfl⟩
  · have hge : i = l.length := by simp at h; omega
    subst hge
    rw [List.drop_length, mapGet] at ht
    apply hK
    refine evl ?_
    refine Fin.nt Try.results123 [] ?_ ?_ ?_ <;> try trivial
    first | exact True.intro | (refine rsl ?_; try exact True.intro)
    rw [ht]; exact ⟨rfl, rfl⟩
def cntPut : List Write → Nat
  | [] => 0
  | x :: l => (if x.Del then 0 else 1) + cntPut l
theorem cntPut_append (a b : List Write) : cntPut (a ++ b) = cntPut a + cntPut b := by
  induction a with
  | nil => simp [cntPut]
  | cons x a ih => simp [cntPut, ih]; omega
theorem cntPut_succ {l : List Write} {i : Nat} (h : i < l.length) : cntPut (l.take (i + 1)) = cntPut (l.take i) + (if l[i].Del then 0 else 1) := by
  rw [List.take_succ_eq_append_getElem h, cntPut_append]; simp [cntPut]
theorem cntPut_le (l : List Write) (i : Nat) : cntPut (l.take i) ≤ i := by
  induction i with
  | zero => simp [cntPut]
  | succ i ih =>
    by_cases h : i < l.length
    · rw [cntPut_succ h]; split <;> omega
    · rw [List.take_of_length_le (by omega)]; rw [List.take_of_length_le (by omega)] at ih; omega
def writeOf (l : List Write) (key : Int) : Write × Bool := firstF (fun x => x.Key == key) ⟨0, false, 0⟩ l
theorem writeOf_none {l : List Write} {key : Int} (h : ∀ j (hj : j < l.length), (l[j].Key == key) = false) : writeOf l key = (⟨0, false, 0⟩, false) := firstF_none h
theorem writeOf_some {l : List Write} {key : Int} {i : Nat} (hi : i < l.length) (hp : (l[i].Key == key) = true) (h : ∀ j (hj : j < l.length), j < i → (l[j].Key == key) = false) : writeOf l key = (l[i], true) := firstF_some hi hp h
def stepWords : List ByteArray := [⟨#[112, 105, 110]⟩, ⟨#[110, 101, 120, 116]⟩, ⟨#[104, 101, 97, 100]⟩, ⟨#[119, 97, 108, 107]⟩, ⟨#[109, 97, 114, 107]⟩, ⟨#[99, 104, 101, 99, 107]⟩, ⟨#[97, 108, 108, 111, 99]⟩, ⟨#[108, 111, 99, 107]⟩, ⟨#[118, 97, 108, 105, 100]⟩, ⟨#[102, 105, 110, 100]⟩, ⟨#[115, 116, 101, 112]⟩, ⟨#[99, 117, 116]⟩, ⟨#[102, 105, 108, 108]⟩, ⟨#[108, 105, 110, 107]⟩, ⟨#[117, 110, 108, 111, 99, 107]⟩, ⟨#[114, 101, 116, 105, 114, 101]⟩, ⟨#[117, 110, 100, 111]⟩, ⟨#[100, 114, 111, 112]⟩, ⟨#[117, 110, 112, 105, 110]⟩, ⟨#[116, 101, 108, 108]⟩, ⟨#[97, 100, 118, 97, 110, 99, 101]⟩, ⟨#[99, 111, 108, 108, 101, 99, 116]⟩]
def stepWord (x : Int) : ByteArray := if within x 0 21 = true then stepWords.getD x.toNat ⟨#[]⟩ else ⟨#[]⟩
theorem stepWord_get {x : Int} {d : Leaf} (h : within x 0 21 = true) : (stepWords.map fun w => Leaf.dat (.str w)).getD x.toNat d = Leaf.dat (.str (stepWord x)) := by
  have h2 : x.toNat < stepWords.length := by
    simp only [within, decide_eq_true_eq] at h
    show x.toNat < 22
    omega
  unfold stepWord
  rw [if_pos h, List.getD_eq_getElem?_getD, List.getD_eq_getElem?_getD, List.getElem?_map, List.getElem?_eq_getElem h2]
  rfl
theorem stepWord_get2 {x : Int} (h : within x 0 21 = true) : ((stepWords.map fun w => [D.str w]).getD x.toNat []).getD 0 default = D.str (stepWord x) := by
  have h2 : x.toNat < stepWords.length := by
    simp only [within, decide_eq_true_eq] at h
    show x.toNat < 22
    omega
  unfold stepWord
  rw [if_pos h, List.getD_eq_getElem?_getD (l := stepWords), List.getD_eq_getElem?_getD (l := List.map _ _), List.getElem?_map, List.getElem?_eq_getElem h2]
  rfl
theorem stepWord_flat {x : Int} (h : within x 0 21 = true) (d : D) (hd : d ∈ (stepWords.map fun w => [D.str w]).getD x.toNat []) : d.flat = true := by
  have h2 : x.toNat < stepWords.length := by
    simp only [within, decide_eq_true_eq] at h
    show x.toNat < 22
    omega
  rw [List.getD_eq_getElem?_getD, List.getElem?_map, List.getElem?_eq_getElem h2] at hd
  simp at hd
  subst hd
  rfl
def seenPut (l : List Seen) (b v : Int) : List Seen × Bool := if (firstF (fun x => x.Bkt == b) ⟨0, 0⟩ l).2 then (l, (firstF (fun x => x.Bkt == b) ⟨0, 0⟩ l).1.Ver == v) else (l ++ [⟨b, v⟩], true)
theorem seenPut_none {l : List Seen} {b v : Int} (h : ∀ j (hj : j < l.length), (l[j].Bkt == b) = false) : seenPut l b v = (l ++ [⟨b, v⟩], true) := by
  unfold seenPut; rw [firstF_none (p := fun x : Seen => x.Bkt == b) h]; rfl
theorem seenPut_some {l : List Seen} {b v : Int} {i : Nat} (hi : i < l.length) (hp : (l[i].Bkt == b) = true) (h : ∀ j (hj : j < l.length), j < i → (l[j].Bkt == b) = false) : seenPut l b v = (l, l[i].Ver == v) := by
  unfold seenPut; rw [firstF_some (p := fun x : Seen => x.Bkt == b) hi hp h]; rfl
theorem seenPut_len (l : List Seen) (b v : Int) : (seenPut l b v).1.length ≤ l.length + 1 := by
  unfold seenPut; split <;> simp
def mapDel (l : List KV) (key : Int) : List KV := l.filter fun x => !(x.Key == key)
theorem mapDel_len (l : List KV) (key : Int) : (mapDel l key).length ≤ l.length := List.length_filter_le ..
theorem mapDel_step {l : List KV} {key : Int} {i : Nat} (hi : i < l.length) : mapDel (l.take (i + 1)) key = if l[i].Key == key then mapDel (l.take i) key else mapDel (l.take i) key ++ [l[i]] := by
  unfold mapDel
  rw [List.take_succ_eq_append_getElem hi, List.filter_append, List.filter_cons]
  cases l[i].Key == key <;> simp
theorem c149 (x : KV) (key : Int) : Ctr Try.prog 149 [.agg ((encKV x).map .dat), .one (.ptr (.ro 1 [[.int .i64 key]] 0 0))] [] (.one (.dat (.bool (x.Key == key)))) [] := by
  simp only [encKV, List.map_cons, List.map_nil]
  refine Ctr.bd mixed Try.func149 rfl ?_
  refine evl ?_
  refine Fin.nt Try.results149 [] ?_ ?_ ?_ <;> try trivial
theorem c132 (l : List KV) (hl : l.length ≤ 16777216) (key : Int) : Ctr Try.prog 132 [.one (.dat (.sl 2 (l.map encKV))), .one (.dat (.int .i64 key))] [] (.one (.own 0)) [.vec 2 true ((mapDel l key).map encKV)] := by
  refine Ctr.bd mixed Try.func132 rfl ?_
  refine evl ?_
  refine CallK_pure e94 (c94 l hl) rfl ?_
  refine evl ?_
  refine CallK_os [1] e148 (by simp [osOk, St.obj, find]) (c148 l hl e149 (fun x => c149 x key)) rfl ?_
  refine evl ?_
  refine Fin.nt Try.results132 [2] ?_ ?_ ?_ <;> try trivial
  all_goals (simp [objsLe, envLe, find, St.obj, AObj.renF, AV.renF, AV.renF1, Leaf.renF, LowAll, AV.Low, AV.Low1, Leaf.Low, AObj.Low, Ptr.renF, Ptr.Low]; try rfl)
theorem c125 (l : List KV) (hl : l.length ≤ 16777216) (key : Int) : Ctr Try.prog 125 [.one (.dat (.sl 2 (l.map encKV))), .one (.dat (.int .i64 key))] [] (.one (.own 0)) [.vec 2 true ((mapDel l key).map encKV)] := by
  have hl' : l.length ≤ maxLen := Nat.le_trans hl (by decide)
  refine Ctr.bd mixed Try.func125 rfl ?_
  refine evl ?_
  refine ⟨by simp, ?_⟩
  refine LoopK_intro (fun n s => ∃ i : Nat, i ≤ l.length ∧ n = l.length - i ∧ s = mkSt [(6, .one (.dat (.int .i64 i))), (5, .one (.own 0)), (1, .one (.dat (.int .i64 key))), (0, .one (.dat (.sl 2 (l.map encKV))))] [.vec 2 true ((mapDel (l.take i) key).map encKV)]) l.length _
    (Ent.weak (ids := [0]) (by simp) rfl (by simp) (by simp [objsLe, envLe, find, St.obj, AObj.renF, AV.renF, AV.renF1, Leaf.renF, LowAll, AV.Low, AV.Low1, Leaf.Low, AObj.Low, Ptr.renF, Ptr.Low]; try simp [mapDel]) (by simp [objsLe, envLe, find, St.obj, AObj.renF, AV.renF, AV.renF1, Leaf.renF, LowAll, AV.Low, AV.Low1, Leaf.Low, AObj.Low, Ptr.renF, Ptr.Low]) (by simp [objsLe, envLe, find, St.obj, AObj.renF, AV.renF, AV.renF1, Leaf.renF, LowAll, AV.Low, AV.Low1, Leaf.Low, AObj.Low, Ptr.renF, Ptr.Low])) ⟨0, by omega, by omega, rfl⟩ ?_
  rintro n s ⟨i, hi, rfl, rfl⟩ K hK
  have hm := mapDel_len (l.take i) key
  rw [List.length_take, Nat.min_eq_left hi] at hm
  refine evl ?_
  refine ⟨fun h => ?_, fun h => ?_⟩
  · have hlt : i < l.length := by simpa using h
    have hw := wrap_succ hlt hl'
    have hstep := mapDel_step (key := key) hlt
    refine ⟨⟨by omega, by omega⟩, hlt, ?_⟩
    simp (maxSteps := 2000000) only [go_sem, ↓reduceIte, reduceCtorEq, Nat.reduceAdd, Nat.reduceMul, Nat.reduceSub, Nat.reduceLT, Nat.reduceLeDiff, Nat.reduceEqDiff, Int.reduceToNat, Int.reduceLT, Int.reduceLE, Int.reduceNeg, hw, getD_map hlt, encKV]
    refine ⟨fun h => ?_, fun h => ?_⟩
    · refine ⟨⟨by omega, by omega⟩, hlt, ⟨by simp [D.flat], by simp⟩, ⟨by simp [D.flat], by simp, by omega, by omega⟩, ?_⟩
      rw [if_neg (by simpa [bne] using h)] at hstep
      apply hK
      refine ⟨l.length - (i + 1), _, by omega, Ent.weak (ids := [2]) (by simp) rfl (by simp) (by rw [hstep]; simp [objsLe, envLe, find, St.obj, AObj.renF, AV.renF, AV.renF1, Leaf.renF, LowAll, AV.Low, AV.Low1, Leaf.Low, AObj.Low, Ptr.renF, Ptr.Low]; try rfl) (by simp [objsLe, envLe, find, St.obj, AObj.renF, AV.renF, AV.renF1, Leaf.renF, LowAll, AV.Low, AV.Low1, Leaf.Low, AObj.Low, Ptr.renF, Ptr.Low]) (by simp [objsLe, envLe, find, St.obj, AObj.renF, AV.renF, AV.renF1, Leaf.renF, LowAll, AV.Low, AV.Low1, Leaf.Low, AObj.Low, Ptr.renF, Ptr.Low]), i + 1, by omega, rfl, rfl⟩
    · rw [if_pos (by simpa [bne] using h)] at hstep
      apply hK
      refine ⟨l.length - (i + 1), _, by omega, Ent.weak (ids := [0]) (by simp) rfl (by simp) (by rw [hstep]; simp [objsLe, envLe, find, St.obj, AObj.renF, AV.renF, AV.renF1, Leaf.renF, LowAll, AV.Low, AV.Low1, Leaf.Low, AObj.Low, Ptr.renF, Ptr.Low]; try rfl) (by simp [objsLe, envLe, find, St.obj, AObj.renF, AV.renF, AV.renF1, Leaf.renF, LowAll, AV.Low, AV.Low1, Leaf.Low, AObj.Low, Ptr.renF, Ptr.Low]) (by simp [objsLe, envLe, find, St.obj, AObj.renF, AV.renF, AV.renF1, Leaf.renF, LowAll, AV.Low, AV.Low1, Leaf.Low, AObj.Low, Ptr.renF, Ptr.Low]), i + 1, by omega, rfl, rfl⟩
  · have hge : i = l.length := by simp at h; omega
    subst hge
    apply hK
    rw [List.take_length]
    refine evl ?_
    refine Fin.nt Try.results125 [0] ?_ ?_ ?_ <;> try trivial
    all_goals simp [objsLe, envLe, find, St.obj, AObj.renF, AV.renF, AV.renF1, Leaf.renF, LowAll, AV.Low, AV.Low1, Leaf.Low, AObj.Low, Ptr.renF, Ptr.Low]
def insF {α : Type} (p : α → Bool) (y : α) : List α → List α
  | [] => [y]
  | a :: m => if p a then y :: a :: m else a :: insF p y m
theorem insF_len {α : Type} (p : α → Bool) (y : α) : ∀ m : List α, (insF p y m).length = m.length + 1
  | [] => rfl
  | a :: m => by
    unfold insF
    split
    · simp
    · simp [insF_len p y m]
theorem insF_not {α : Type} {p : α → Bool} {y : α} : ∀ {m : List α}, m.any p = false → insF p y m = m ++ [y]
  | [], _ => rfl
  | a :: m, h => by
    simp only [List.any_cons, Bool.or_eq_false_iff] at h
    unfold insF
    rw [h.1, insF_not h.2]
    rfl
theorem insF_old {α : Type} {p : α → Bool} {y x : α} : ∀ {m : List α}, m.any p = true → insF p y (m ++ [x]) = insF p y m ++ [x]
  | [], h => by simp at h
  | a :: m, h => by
    rw [List.cons_append]
    unfold insF
    cases ha : p a with
    | true => simp
    | false =>
      simp only [List.any_cons, ha, Bool.false_or] at h
      simp [insF_old h]
theorem insF_new {α : Type} {p : α → Bool} {y x : α} (hx : p x = true) : ∀ {m : List α}, m.any p = false → insF p y (m ++ [x]) = m ++ [y, x]
  | [], _ => by simp [insF, hx]
  | a :: m, h => by
    simp only [List.any_cons, Bool.or_eq_false_iff] at h
    rw [List.cons_append]
    unfold insF
    rw [h.1, insF_new hx h.2]
    simp
theorem insF_end {α : Type} {p : α → Bool} {y : α} {m : List α} (h : ∀ j (hj : j < m.length), p m[j] = false) : m.take m.length ++ y :: m.drop m.length = insF p y m := by
  rw [insF_not]
  · simp
  · rw [List.any_eq_false]
    intro x hx
    obtain ⟨j, hj, rfl⟩ := List.getElem_of_mem hx
    simp [h j hj]
theorem insF_at {α : Type} {p : α → Bool} {y : α} : ∀ {m : List α} {i : Nat} (hi : i < m.length), p m[i] = true → (∀ j (hj : j < m.length), j < i → p m[j] = false) → m.take i ++ y :: m.drop i = insF p y m
  | [], i, hi, _, _ => by simp at hi
  | a :: m, 0, _, hp, _ => by
    have hp' : p a = true := hp
    simp [insF, hp']
  | a :: m, i + 1, hi, hp, h => by
    have h0 : p a = false := h 0 (by simp) (by omega)
    have := insF_at (p := p) (y := y) (m := m) (i := i) (by simpa using hi) (by simpa using hp) (fun j hj hji => h (j + 1) (by simpa using hj) (by omega))
    unfold insF
    rw [h0]
    simp only [List.take_succ_cons, List.drop_succ_cons, List.cons_append, Bool.false_eq_true, if_false]
    rw [this]
def mapPut (l : List KV) (key : Int) (val : Int) : List KV := insF (fun x : KV => decide (key < x.Key)) ⟨key, val⟩ (mapDel l key)
theorem mapPut_len (l : List KV) (key : Int) (val : Int) : (mapPut l key val).length ≤ l.length + 1 := by
  unfold mapPut
  rw [insF_len]
  have := mapDel_len l key
  omega
def mapPutPre (l : List KV) (key : Int) (val : Int) : List KV := if (mapDel l key).any (fun x : KV => decide (key < x.Key)) then mapPut l key val else mapDel l key
theorem mapPutPre_len (l : List KV) (key : Int) (val : Int) : (mapPutPre l key val).length ≤ l.length + 1 := by
  unfold mapPutPre
  have h1 := mapPut_len l key val
  have h2 := mapDel_len l key
  split <;> omega
theorem mapPut_skip {l : List KV} {key : Int} {val : Int} {i : Nat} (hi : i < l.length) (h : (l[i].Key == key) = true) : mapPutPre (l.take (i + 1)) key val = mapPutPre (l.take i) key val ∧ (mapDel (l.take (i + 1)) key).any (fun x : KV => decide (key < x.Key)) = (mapDel (l.take i) key).any (fun x : KV => decide (key < x.Key)) := by
  unfold mapPutPre mapPut
  rw [mapDel_step hi, if_pos h]
  exact ⟨rfl, rfl⟩
theorem mapPut_old {l : List KV} {key : Int} {val : Int} {i : Nat} (hi : i < l.length) (h : (l[i].Key == key) = false) (hd : (mapDel (l.take i) key).any (fun x : KV => decide (key < x.Key)) = true) : mapPutPre (l.take (i + 1)) key val = mapPutPre (l.take i) key val ++ [l[i]] ∧ (mapDel (l.take (i + 1)) key).any (fun x : KV => decide (key < x.Key)) = true := by
  unfold mapPutPre mapPut
  have hs := mapDel_step (key := key) hi
  rw [if_neg (by simp [h])] at hs
  rw [hs, hd, List.any_append, hd, insF_old hd]
  simp
theorem mapPut_new {l : List KV} {key : Int} {val : Int} {i : Nat} (hi : i < l.length) (h : (l[i].Key == key) = false) (hd : (mapDel (l.take i) key).any (fun x : KV => decide (key < x.Key)) = false) (hx : key < l[i].Key) : mapPutPre (l.take (i + 1)) key val = mapPutPre (l.take i) key val ++ [⟨key, val⟩] ++ [l[i]] ∧ (mapDel (l.take (i + 1)) key).any (fun x : KV => decide (key < x.Key)) = true := by
  have hx' : (fun x : KV => decide (key < x.Key)) l[i] = true := by simpa using hx
  unfold mapPutPre mapPut
  have hs := mapDel_step (key := key) hi
  rw [if_neg (by simp [h])] at hs
  rw [hs, hd, List.any_append, hd, insF_new (p := (fun x : KV => decide (key < x.Key))) hx' hd]
  simp [hx]
theorem mapPut_low {l : List KV} {key : Int} {val : Int} {i : Nat} (hi : i < l.length) (h : (l[i].Key == key) = false) (hd : (mapDel (l.take i) key).any (fun x : KV => decide (key < x.Key)) = false) (hx : ¬ key < l[i].Key) : mapPutPre (l.take (i + 1)) key val = mapPutPre (l.take i) key val ++ [l[i]] ∧ (mapDel (l.take (i + 1)) key).any (fun x : KV => decide (key < x.Key)) = false := by
  unfold mapPutPre mapPut
  have hs := mapDel_step (key := key) hi
  rw [if_neg (by simp [h])] at hs
  rw [hs, hd, List.any_append, hd]
  simp [hx]
theorem mapPut_end {l : List KV} {key : Int} {val : Int} : mapPut l key val = if (mapDel l key).any (fun x : KV => decide (key < x.Key)) then mapPutPre l key val else mapPutPre l key val ++ [⟨key, val⟩] := by
  unfold mapPutPre mapPut
  split
  · rfl
  · rename_i h
    rw [insF_not (by simpa using h)]
def writeDel (l : List Write) (key : Int) : List Write := l.filter fun x => !(x.Key == key)
theorem writeDel_len (l : List Write) (key : Int) : (writeDel l key).length ≤ l.length := List.length_filter_le ..
theorem writeDel_step {l : List Write} {key : Int} {i : Nat} (hi : i < l.length) : writeDel (l.take (i + 1)) key = if l[i].Key == key then writeDel (l.take i) key else writeDel (l.take i) key ++ [l[i]] := by
  unfold writeDel
  rw [List.take_succ_eq_append_getElem hi, List.filter_append, List.filter_cons]
  cases l[i].Key == key <;> simp
def writePut (l : List Write) (w : Write) : List Write := insF (fun x : Write => decide (w.Key < x.Key)) ⟨w.Key, w.Del, w.Val⟩ (writeDel l w.Key)
theorem writePut_len (l : List Write) (w : Write) : (writePut l w).length ≤ l.length + 1 := by
  unfold writePut
  rw [insF_len]
  have := writeDel_len l w.Key
  omega
def writePutPre (l : List Write) (w : Write) : List Write := if (writeDel l w.Key).any (fun x : Write => decide (w.Key < x.Key)) then writePut l w else writeDel l w.Key
theorem writePutPre_len (l : List Write) (w : Write) : (writePutPre l w).length ≤ l.length + 1 := by
  unfold writePutPre
  have h1 := writePut_len l w
  have h2 := writeDel_len l w.Key
  split <;> omega
theorem writePut_skip {l : List Write} {w : Write} {i : Nat} (hi : i < l.length) (h : (l[i].Key == w.Key) = true) : writePutPre (l.take (i + 1)) w = writePutPre (l.take i) w ∧ (writeDel (l.take (i + 1)) w.Key).any (fun x : Write => decide (w.Key < x.Key)) = (writeDel (l.take i) w.Key).any (fun x : Write => decide (w.Key < x.Key)) := by
  unfold writePutPre writePut
  rw [writeDel_step hi, if_pos h]
  exact ⟨rfl, rfl⟩
theorem writePut_old {l : List Write} {w : Write} {i : Nat} (hi : i < l.length) (h : (l[i].Key == w.Key) = false) (hd : (writeDel (l.take i) w.Key).any (fun x : Write => decide (w.Key < x.Key)) = true) : writePutPre (l.take (i + 1)) w = writePutPre (l.take i) w ++ [l[i]] ∧ (writeDel (l.take (i + 1)) w.Key).any (fun x : Write => decide (w.Key < x.Key)) = true := by
  unfold writePutPre writePut
  have hs := writeDel_step (key := w.Key) hi
  rw [if_neg (by simp [h])] at hs
  rw [hs, hd, List.any_append, hd, insF_old hd]
  simp
theorem writePut_new {l : List Write} {w : Write} {i : Nat} (hi : i < l.length) (h : (l[i].Key == w.Key) = false) (hd : (writeDel (l.take i) w.Key).any (fun x : Write => decide (w.Key < x.Key)) = false) (hx : w.Key < l[i].Key) : writePutPre (l.take (i + 1)) w = writePutPre (l.take i) w ++ [⟨w.Key, w.Del, w.Val⟩] ++ [l[i]] ∧ (writeDel (l.take (i + 1)) w.Key).any (fun x : Write => decide (w.Key < x.Key)) = true := by
  have hx' : (fun x : Write => decide (w.Key < x.Key)) l[i] = true := by simpa using hx
  unfold writePutPre writePut
  have hs := writeDel_step (key := w.Key) hi
  rw [if_neg (by simp [h])] at hs
  rw [hs, hd, List.any_append, hd, insF_new (p := (fun x : Write => decide (w.Key < x.Key))) hx' hd]
  simp [hx]
theorem writePut_low {l : List Write} {w : Write} {i : Nat} (hi : i < l.length) (h : (l[i].Key == w.Key) = false) (hd : (writeDel (l.take i) w.Key).any (fun x : Write => decide (w.Key < x.Key)) = false) (hx : ¬ w.Key < l[i].Key) : writePutPre (l.take (i + 1)) w = writePutPre (l.take i) w ++ [l[i]] ∧ (writeDel (l.take (i + 1)) w.Key).any (fun x : Write => decide (w.Key < x.Key)) = false := by
  unfold writePutPre writePut
  have hs := writeDel_step (key := w.Key) hi
  rw [if_neg (by simp [h])] at hs
  rw [hs, hd, List.any_append, hd]
  simp [hx]
theorem writePut_end {l : List Write} {w : Write} : writePut l w = if (writeDel l w.Key).any (fun x : Write => decide (w.Key < x.Key)) then writePutPre l w else writePutPre l w ++ [⟨w.Key, w.Del, w.Val⟩] := by
  unfold writePutPre writePut
  split
  · rfl
  · rename_i h
    rw [insF_not (by simpa using h)]
theorem c146 (x : KV) (key : Int) : Ctr Try.prog 146 [.agg ((encKV x).map .dat), .one (.ptr (.ro 1 [[.int .i64 key]] 0 0))] [] (.one (.dat (.bool (decide (key < x.Key))))) [] := by
  simp only [encKV, List.map_cons, List.map_nil]
  refine Ctr.bd mixed Try.func146 rfl ?_
  refine evl ?_
  refine Fin.nt Try.results146 [] ?_ ?_ ?_ <;> try trivial
theorem c131 (l : List KV) (hl : l.length ≤ 16777216) (key val : Int) : Ctr Try.prog 131 [.one (.dat (.sl 2 (l.map encKV))), .one (.dat (.int .i64 key)), .one (.dat (.int .i64 val))] [] (.one (.own 0)) [.vec 2 true ((mapPut l key val).map encKV)] := by
  have hm := mapDel_len l key
  have hm' : (mapDel l key).length ≤ maxLen := Nat.le_trans (Nat.le_trans hm hl) (by decide)
  refine Ctr.bd mixed Try.func131 rfl ?_
  refine evl ?_
  refine CallK_pure e132 (c132 l hl key) rfl ?_
  refine evl ?_
  refine CallK_pure e145 (c145 (mapDel l key) hm' e146 (fun x => c146 x key)) rfl ?_
  rcases ixF_cases (fun x : KV => decide (key < x.Key)) (mapDel l key) with ⟨e, hno⟩ | ⟨i, hi, e, hp, hno⟩
  · rw [e]
    refine evl ?_
    refine ⟨by simp [D.flat], ?_⟩
    refine CallK_os [1, 2] e147 (by simp [osOk, St.obj, find]) (c147 (mapDel l key) (mapDel l key).length (by omega) ⟨key, val⟩ (by omega)) rfl ?_
    rw [insF_end (p := fun x : KV => decide (key < x.Key)) (y := ⟨key, val⟩) hno]
    refine evl ?_
    refine Fin.nt Try.results131 [3] ?_ ?_ ?_ <;> try trivial
    all_goals (simp [objsLe, envLe, find, St.obj, AObj.renF, AV.renF, AV.renF1, Leaf.renF, LowAll, AV.Low, AV.Low1, Leaf.Low, AObj.Low, Ptr.renF, Ptr.Low]; try rfl)
  · rw [e]
    have hnn : decide ((i : Int) < 0) = false := by simp
    simp (maxSteps := 2000000) only [go_sem, ↓reduceIte, reduceCtorEq, Nat.reduceAdd, Nat.reduceMul, Nat.reduceSub, Nat.reduceLT, Nat.reduceLeDiff, Nat.reduceEqDiff, Int.reduceToNat, Int.reduceLT, Int.reduceLE, Int.reduceNeg, hnn]
    refine ⟨by simp [D.flat], ?_⟩
    refine CallK_os [1, 2] e147 (by simp [osOk, St.obj, find]) (c147 (mapDel l key) i (by omega) ⟨key, val⟩ (by omega)) rfl ?_
    rw [insF_at (p := fun x : KV => decide (key < x.Key)) (y := ⟨key, val⟩) hi hp hno]
    refine evl ?_
    refine Fin.nt Try.results131 [3] ?_ ?_ ?_ <;> try trivial
    all_goals (simp [objsLe, envLe, find, St.obj, AObj.renF, AV.renF, AV.renF1, Leaf.renF, LowAll, AV.Low, AV.Low1, Leaf.Low, AObj.Low, Ptr.renF, Ptr.Low]; try rfl)
def wr1 (m : List KV) (x : Write) : List KV := if x.Del then mapDel m x.Key else mapPut m x.Key x.Val
def applyWrites (l : List KV) (w : List Write) : List KV := w.foldl wr1 l
theorem wr1_len (m : List KV) (x : Write) : (wr1 m x).length ≤ m.length + 1 := by
  unfold wr1
  have h1 := mapDel_len m x.Key
  have h2 := mapPut_len m x.Key x.Val
  split <;> omega
theorem applyWrites_len (l : List KV) : ∀ w : List Write, (applyWrites l w).length ≤ l.length + w.length := by
  intro w
  induction w generalizing l with
  | nil => simp [applyWrites]
  | cons x w ih =>
    have h := ih (wr1 l x)
    have h1 := wr1_len l x
    have e : applyWrites l (x :: w) = applyWrites (wr1 l x) w := rfl
    rw [e, List.length_cons]
    omega
theorem applyWrites_step {l : List KV} {w : List Write} {i : Nat} (h : i < w.length) : applyWrites l (w.take (i + 1)) = wr1 (applyWrites l (w.take i)) w[i] := by
  unfold applyWrites
  rw [List.take_succ_eq_append_getElem h, List.foldl_append]
  rfl
theorem c124 (l : List KV) (hl : l.length ≤ 16777216) (key val : Int) : Ctr Try.prog 124 [.one (.dat (.sl 2 (l.map encKV))), .one (.dat (.int .i64 key)), .one (.dat (.int .i64 val))] [] (.one (.own 0)) [.vec 2 true ((mapPut l key val).map encKV)] := by
  have hl' : l.length ≤ maxLen := Nat.le_trans hl (by decide)
  refine Ctr.bd mixed Try.func124 rfl ?_
  refine evl ?_
  refine ⟨by simp, ?_⟩
  refine LoopK_intro (fun n s => ∃ i : Nat, i ≤ l.length ∧ n = l.length - i ∧ s = mkSt [(9, .one (.dat (.int .i64 i))), (8, .one (.dat (.bool ((mapDel (l.take i) key).any (fun x : KV => decide (key < x.Key)))))), (7, .one (.own 0)), (2, .one (.dat (.int .i64 val))), (1, .one (.dat (.int .i64 key))), (0, .one (.dat (.sl 2 (l.map encKV))))] [.vec 2 true ((mapPutPre (l.take i) key val).map encKV)]) l.length _
    (Ent.weak (ids := [0]) (by simp) rfl (by simp) (by simp [objsLe, envLe, find, St.obj, AObj.renF, AV.renF, AV.renF1, Leaf.renF, LowAll, AV.Low, AV.Low1, Leaf.Low, AObj.Low, Ptr.renF, Ptr.Low]; try simp [mapPutPre, mapDel]) (by simp [objsLe, envLe, find, St.obj, AObj.renF, AV.renF, AV.renF1, Leaf.renF, LowAll, AV.Low, AV.Low1, Leaf.Low, AObj.Low, Ptr.renF, Ptr.Low]; try simp [mapDel]) (by simp [objsLe, envLe, find, St.obj, AObj.renF, AV.renF, AV.renF1, Leaf.renF, LowAll, AV.Low, AV.Low1, Leaf.Low, AObj.Low, Ptr.renF, Ptr.Low])) ⟨0, by omega, by omega, rfl⟩ ?_
  rintro n s ⟨i, hi, rfl, rfl⟩ K hK
  have hm := mapPutPre_len (l.take i) key val
  rw [List.length_take, Nat.min_eq_left hi] at hm
  rcases Nat.lt_or_ge i l.length with hlt | hge
  · have hdi : decide ((i : Int) < l.length) = true := by simpa using hlt
    have hw := wrap_succ hlt hl'
    have hf1 : ∀ r ∈ [encKV l[i]], ∀ d ∈ r, d.flat = true := by simp [encKV, D.flat]
    have hf2 : ∀ r ∈ [encKV ⟨key, val⟩], ∀ d ∈ r, d.flat = true := by simp [encKV, D.flat]
    cases hkey : (l[i].Key == key) with
    | true =>
      simp (maxSteps := 2000000) only [go_sem, ↓reduceIte, reduceCtorEq, Nat.reduceAdd, Nat.reduceMul, Nat.reduceSub, Nat.reduceLT, Nat.reduceLeDiff, Nat.reduceEqDiff, Int.reduceToNat, Int.reduceLT, Int.reduceLE, Int.reduceNeg, hdi, hw, getD_map hlt, encKV, List.length_append, hkey]
      obtain ⟨s1, s2⟩ := mapPut_skip (key := key) (val := val) hlt hkey
      refine ⟨⟨by omega, by omega⟩, hlt, ?_⟩
      apply hK
      exact ⟨l.length - (i + 1), _, by omega, Ent.weak (ids := [0]) (by simp) rfl (by simp) (by rw [s1]; simp [objsLe, envLe, find, St.obj, AObj.renF, AV.renF, AV.renF1, Leaf.renF, LowAll, AV.Low, AV.Low1, Leaf.Low, AObj.Low, Ptr.renF, Ptr.Low]) (by rw [s2]; simp [objsLe, envLe, find, St.obj, AObj.renF, AV.renF, AV.renF1, Leaf.renF, LowAll, AV.Low, AV.Low1, Leaf.Low, AObj.Low, Ptr.renF, Ptr.Low]) (by simp [objsLe, envLe, find, St.obj, AObj.renF, AV.renF, AV.renF1, Leaf.renF, LowAll, AV.Low, AV.Low1, Leaf.Low, AObj.Low, Ptr.renF, Ptr.Low]), i + 1, by omega, rfl, rfl⟩
    | false =>
      cases hd : (mapDel (l.take i) key).any (fun x : KV => decide (key < x.Key)) with
      | true =>
        simp (maxSteps := 2000000) only [go_sem, ↓reduceIte, reduceCtorEq, Nat.reduceAdd, Nat.reduceMul, Nat.reduceSub, Nat.reduceLT, Nat.reduceLeDiff, Nat.reduceEqDiff, Int.reduceToNat, Int.reduceLT, Int.reduceLE, Int.reduceNeg, hdi, hw, getD_map hlt, encKV, List.length_append, hkey, hd]
        obtain ⟨s1, s2⟩ := mapPut_old (key := key) (val := val) hlt hkey hd
        repeat' ((with_reducible show _ ∧ _); apply And.intro)
        all_goals first
          | (apply hK
             exact ⟨l.length - (i + 1), _, by omega, Ent.weak (ids := [2]) (by simp) rfl (by simp) (by rw [s1]; simp [objsLe, envLe, find, St.obj, AObj.renF, AV.renF, AV.renF1, Leaf.renF, LowAll, AV.Low, AV.Low1, Leaf.Low, AObj.Low, Ptr.renF, Ptr.Low]; try rfl) (by rw [s2]; simp [objsLe, envLe, find, St.obj, AObj.renF, AV.renF, AV.renF1, Leaf.renF, LowAll, AV.Low, AV.Low1, Leaf.Low, AObj.Low, Ptr.renF, Ptr.Low]) (by simp [objsLe, envLe, find, St.obj, AObj.renF, AV.renF, AV.renF1, Leaf.renF, LowAll, AV.Low, AV.Low1, Leaf.Low, AObj.Low, Ptr.renF, Ptr.Low]), i + 1, by omega, rfl, rfl⟩)
          | (with_reducible exact hlt)
          | (with_reducible rfl)
          | exact (rfl : D.flat (.int _ _) = true)
          | exact (rfl : D.flat (.bool _) = true)
          | exact List.nodup_nil
          | exact List.not_mem_nil
          | omega
          | exact hf1
          | exact hf2
      | false =>
        by_cases hx : key < l[i].Key
        · have hxd : decide (key < l[i].Key) = true := by simpa using hx
          simp (maxSteps := 2000000) only [go_sem, ↓reduceIte, reduceCtorEq, Nat.reduceAdd, Nat.reduceMul, Nat.reduceSub, Nat.reduceLT, Nat.reduceLeDiff, Nat.reduceEqDiff, Int.reduceToNat, Int.reduceLT, Int.reduceLE, Int.reduceNeg, hdi, hw, getD_map hlt, encKV, List.length_append, hkey, hd, hxd]
          obtain ⟨s1, s2⟩ := mapPut_new (key := key) (val := val) hlt hkey hd hx
          repeat' ((with_reducible show _ ∧ _); apply And.intro)
          all_goals first
            | (apply hK
               exact ⟨l.length - (i + 1), _, by omega, Ent.weak (ids := [4]) (by simp) rfl (by simp) (by rw [s1]; simp [objsLe, envLe, find, St.obj, AObj.renF, AV.renF, AV.renF1, Leaf.renF, LowAll, AV.Low, AV.Low1, Leaf.Low, AObj.Low, Ptr.renF, Ptr.Low]; try simp [encKV]) (by rw [s2]; simp [objsLe, envLe, find, St.obj, AObj.renF, AV.renF, AV.renF1, Leaf.renF, LowAll, AV.Low, AV.Low1, Leaf.Low, AObj.Low, Ptr.renF, Ptr.Low]) (by simp [objsLe, envLe, find, St.obj, AObj.renF, AV.renF, AV.renF1, Leaf.renF, LowAll, AV.Low, AV.Low1, Leaf.Low, AObj.Low, Ptr.renF, Ptr.Low]), i + 1, by omega, rfl, rfl⟩)
            | (with_reducible exact hlt)
            | (with_reducible rfl)
            | exact (rfl : D.flat (.int _ _) = true)
            | exact (rfl : D.flat (.bool _) = true)
            | exact List.nodup_nil
            | exact List.not_mem_nil
            | omega
            | exact hf1
            | exact hf2
        · have hxd : decide (key < l[i].Key) = false := by simpa using hx
          simp (maxSteps := 2000000) only [go_sem, ↓reduceIte, reduceCtorEq, Nat.reduceAdd, Nat.reduceMul, Nat.reduceSub, Nat.reduceLT, Nat.reduceLeDiff, Nat.reduceEqDiff, Int.reduceToNat, Int.reduceLT, Int.reduceLE, Int.reduceNeg, hdi, hw, getD_map hlt, encKV, List.length_append, hkey, hd, hxd]
          obtain ⟨s1, s2⟩ := mapPut_low (key := key) (val := val) hlt hkey hd hx
          repeat' ((with_reducible show _ ∧ _); apply And.intro)
          all_goals first
            | (apply hK
               exact ⟨l.length - (i + 1), _, by omega, Ent.weak (ids := [2]) (by simp) rfl (by simp) (by rw [s1]; simp [objsLe, envLe, find, St.obj, AObj.renF, AV.renF, AV.renF1, Leaf.renF, LowAll, AV.Low, AV.Low1, Leaf.Low, AObj.Low, Ptr.renF, Ptr.Low]; try rfl) (by rw [s2]; simp [objsLe, envLe, find, St.obj, AObj.renF, AV.renF, AV.renF1, Leaf.renF, LowAll, AV.Low, AV.Low1, Leaf.Low, AObj.Low, Ptr.renF, Ptr.Low]) (by simp [objsLe, envLe, find, St.obj, AObj.renF, AV.renF, AV.renF1, Leaf.renF, LowAll, AV.Low, AV.Low1, Leaf.Low, AObj.Low, Ptr.renF, Ptr.Low]), i + 1, by omega, rfl, rfl⟩)
            | (with_reducible exact hlt)
            | (with_reducible rfl)
            | exact (rfl : D.flat (.int _ _) = true)
            | exact (rfl : D.flat (.bool _) = true)
            | exact List.nodup_nil
            | exact List.not_mem_nil
            | omega
            | exact hf1
            | exact hf2
  · have hge' : i = l.length := by omega
    subst hge'
    have hdi : decide ((l.length : Int) < l.length) = false := by simp
    rw [List.take_length] at hm ⊢
    rw [mapPut_end] at hK
    cases hd : (mapDel l key).any (fun x : KV => decide (key < x.Key)) with
    | true =>
      rw [hd, if_pos rfl] at hK
      simp (maxSteps := 2000000) only [go_sem, ↓reduceIte, reduceCtorEq, Nat.reduceAdd, Nat.reduceMul, Nat.reduceSub, Nat.reduceLT, Nat.reduceLeDiff, Nat.reduceEqDiff, Int.reduceToNat, Int.reduceLT, Int.reduceLE, Int.reduceNeg, hdi]
      apply hK
      refine evl ?_
      refine Fin.nt Try.results124 [0] ?_ ?_ ?_ <;> try trivial
      all_goals simp [objsLe, envLe, find, St.obj, AObj.renF, AV.renF, AV.renF1, Leaf.renF, LowAll, AV.Low, AV.Low1, Leaf.Low, AObj.Low, Ptr.renF, Ptr.Low]
    | false =>
      rw [hd, if_neg (by simp)] at hK
      simp (maxSteps := 2000000) only [go_sem, ↓reduceIte, reduceCtorEq, Nat.reduceAdd, Nat.reduceMul, Nat.reduceSub, Nat.reduceLT, Nat.reduceLeDiff, Nat.reduceEqDiff, Int.reduceToNat, Int.reduceLT, Int.reduceLE, Int.reduceNeg, hdi]
      apply hK
      refine evl ?_
      refine ⟨⟨by simp [D.flat], by simp⟩, ⟨by simp [D.flat], by simp, by omega, by omega⟩, ?_⟩
      refine Fin.nt Try.results124 [2] ?_ ?_ ?_ <;> try trivial
      all_goals (simp [objsLe, envLe, find, St.obj, AObj.renF, AV.renF, AV.renF1, Leaf.renF, LowAll, AV.Low, AV.Low1, Leaf.Low, AObj.Low, Ptr.renF, Ptr.Low]; try simp [encKV])
theorem c133 (a b : Int) (ha : 0 ≤ a ∧ a ≤ 65535) (hb : 0 ≤ b ∧ b ≤ 65535) : Ctr Try.prog 133 [.one (.dat (.int .i64 a)), .one (.dat (.int .i64 b))] [] (.one (.dat (.int .i64 ((a + b) % 65536)))) [] := by
  have hw : IntKind.i64.wrap (a + b) = a + b := by rw [IntKind.wrap_i64]; omega
  have ht : (a + b).tmod 65536 = (a + b) % 65536 := Int.tmod_eq_emod_of_nonneg (by omega)
  refine Ctr.bd mixed Try.func133 rfl ?_
  simp (maxSteps := 2000000) only [go_sem, ↓reduceIte, reduceCtorEq, Nat.reduceAdd, Nat.reduceMul, Nat.reduceSub, Nat.reduceLT, Nat.reduceLeDiff, Nat.reduceEqDiff, Int.reduceToNat, Int.reduceLT, Int.reduceLE, Int.reduceNeg, hw, ht]
  first
    | refine Fin.nt Try.results133 [] ?_ ?_ ?_ <;> try trivial
    | (refine ⟨by decide, ?_⟩; refine Fin.nt Try.results133 [] ?_ ?_ ?_ <;> try trivial)
    | (refine ⟨by omega, ?_⟩; refine Fin.nt Try.results133 [] ?_ ?_ ?_ <;> try trivial)
theorem c126 (a b : Int) (ha : 0 ≤ a ∧ a ≤ 65535) (hb : 0 ≤ b ∧ b ≤ 65535) : Ctr Try.prog 126 [.one (.dat (.int .i64 a)), .one (.dat (.int .i64 b))] [] (.one (.dat (.int .i64 ((a + b) % 65536)))) [] := by
  have t1 : a.tmod 65536 = a := by rw [Int.tmod_eq_emod_of_nonneg (by omega)]; omega
  have t2 : b.tmod 65536 = b := by rw [Int.tmod_eq_emod_of_nonneg (by omega)]; omega
  have hw : IntKind.i64.wrap (a + b) = a + b := by rw [IntKind.wrap_i64]; omega
  have hw2 : IntKind.i64.wrap (a + b + 65536) = a + b + 65536 := by rw [IntKind.wrap_i64]; omega
  have ht : (a + b + 65536).tmod 65536 = (a + b) % 65536 := by rw [Int.tmod_eq_emod_of_nonneg (by omega)]; omega
  refine Ctr.bd mixed Try.func126 rfl ?_
  simp (maxSteps := 2000000) only [go_sem, ↓reduceIte, reduceCtorEq, Nat.reduceAdd, Nat.reduceMul, Nat.reduceSub, Nat.reduceLT, Nat.reduceLeDiff, Nat.reduceEqDiff, Int.reduceToNat, Int.reduceLT, Int.reduceLE, Int.reduceNeg, t1, t2, hw, hw2, ht]
  repeat' ((with_reducible show _ ∧ _); apply And.intro)
  all_goals first
    | (exact (by decide : (65536 : Int) = 0 → False))
    | decide
    | (refine Fin.nt Try.results126 [] ?_ ?_ ?_ <;> try trivial)
def cmdDo (l : List KV) (c : Cmd) : List KV × Res :=
  if mapOk l && cmdOk c.Kind c.Key c.Val then
    if c.Kind = 1 then (l, ⟨(mapGet c.Key l).2, (mapGet c.Key l).1⟩)
    else if c.Kind = 2 then (mapPut l c.Key c.Val, ⟨false, 0⟩)
    else if c.Kind = 3 then (mapDel l c.Key, ⟨false, 0⟩)
    else (mapPut l c.Key (((mapGet c.Key l).1 + c.Val) % 65536), ⟨true, ((mapGet c.Key l).1 + c.Val) % 65536⟩)
  else (l, ⟨false, 0⟩)
theorem cmdDo_len (l : List KV) (c : Cmd) : (cmdDo l c).1.length ≤ l.length + 1 := by
  unfold cmdDo
  have h1 := mapPut_len l c.Key c.Val
  have h2 := mapDel_len l c.Key
  have h3 := mapPut_len l c.Key (((mapGet c.Key l).1 + c.Val) % 65536)
  repeat' split
  all_goals simp only <;> omega
theorem mapGet_in (key : Int) : ∀ {l : List KV}, (∀ x ∈ l, 0 ≤ x.Val ∧ x.Val ≤ 65535) → 0 ≤ (mapGet key l).1 ∧ (mapGet key l).1 ≤ 65535
  | [], _ => by simp [mapGet]
  | x :: l, h => by
    unfold mapGet
    split
    · exact h x (by simp)
    · exact mapGet_in key fun y hy => h y (by simp [hy])
theorem mapOk_vals {l : List KV} (h : mapOk l = true) : ∀ x ∈ l, 0 ≤ x.Val ∧ x.Val ≤ 65535 := fun x hx => by
  obtain ⟨j, hj, rfl⟩ := List.getElem_of_mem hx
  simp only [mapOk, List.all_eq_true, List.mem_range] at h
  have := h j hj
  simp only [mapGood, Bool.and_eq_true] at this
  have h2 := this.1.2
  rw [List.getD_eq_getElem?_getD, List.getElem?_eq_getElem hj, Option.getD_some] at h2
  simpa [within] using h2
theorem cmdDo_bad {l : List KV} {c : Cmd} (h : (mapOk l && cmdOk c.Kind c.Key c.Val) = false) : cmdDo l c = (l, ⟨false, 0⟩) := by
  unfold cmdDo; rw [h]; rfl
theorem cmdOk_kind {k x v : Int} (h : cmdOk k x v = true) : (k = 1 ∨ k = 2 ∨ k = 3 ∨ k = 4) ∧ (k = 4 → 0 ≤ v ∧ v ≤ 65535) := by
  simp only [cmdOk, within, Bool.and_eq_true, Bool.or_eq_true, decide_eq_true_eq, beq_iff_eq] at h
  refine ⟨by omega, fun h4 => ?_⟩
  omega
theorem c95 (l : List KV) (hl : l.length ≤ 8388608) (c : Cmd) : Ctr Try.prog 95 [.one (.dat (.sl 2 (l.map encKV))), .agg ((encCmd c).map .dat)] [] (.tup [.one (.own 0), .agg [.dat (.bool (cmdDo l c).2.Is), .dat (.int .i64 (cmdDo l c).2.Val)]]) [.vec 2 true ((cmdDo l c).1.map encKV)] := by
  have hl' : l.length ≤ maxLen := Nat.le_trans hl (by decide)
  obtain ⟨k, key, v⟩ := c
  simp only [encCmd, List.map_cons, List.map_nil]
  refine Ctr.bd mixed Try.func95 rfl ?_
  refine evl ?_
  first | refine CallK_pure e94 (c94 l (by omega)) rfl ?_ | refine EffK_pw e94 (c94 l (by omega)) rfl ?_ | refine EffK_pu e94 (c94 l (by omega)) rfl ?_ | refine CCallK_pl e94 (c94 l (by omega)) rfl rfl ?_ | refine CCallK_pm e94 (c94 l (by omega)) rfl rfl ?_
  refine evl ?_
  cases hm : mapOk l with
  | false =>
    cases hc : cmdOk k key v with
    | false =>
      rw [cmdDo_bad (by simp [hm])]
      first | refine CallK_pure e128 (c128 l hl') rfl ?_ | refine EffK_pw e128 (c128 l hl') rfl ?_ | refine EffK_pu e128 (c128 l hl') rfl ?_ | refine CCallK_pl e128 (c128 l hl') rfl rfl ?_ | refine CCallK_pm e128 (c128 l hl') rfl rfl ?_
      simp (maxSteps := 2000000) only [go_sem, ↓reduceIte, reduceCtorEq, Nat.reduceAdd, Nat.reduceMul, Nat.reduceSub, Nat.reduceLT, Nat.reduceLeDiff, Nat.reduceEqDiff, Int.reduceToNat, Int.reduceLT, Int.reduceLE, Int.reduceNeg, hm]
      first | refine CallK_pure e129 (c129 k key v) rfl ?_ | refine EffK_pw e129 (c129 k key v) rfl ?_ | refine EffK_pu e129 (c129 k key v) rfl ?_ | refine CCallK_pl e129 (c129 k key v) rfl rfl ?_ | refine CCallK_pm e129 (c129 k key v) rfl rfl ?_
      simp (maxSteps := 2000000) only [go_sem, ↓reduceIte, reduceCtorEq, Nat.reduceAdd, Nat.reduceMul, Nat.reduceSub, Nat.reduceLT, Nat.reduceLeDiff, Nat.reduceEqDiff, Int.reduceToNat, Int.reduceLT, Int.reduceLE, Int.reduceNeg, hm, hc]
      refine Fin.nt Try.results95 [2] ?_ ?_ ?_ <;> try trivial
      all_goals simp [objsLe, envLe, find, St.obj, AObj.renF, AV.renF, AV.renF1, Leaf.renF, LowAll, AV.Low, AV.Low1, Leaf.Low, AObj.Low, Ptr.renF, Ptr.Low]
    | true =>
      rw [cmdDo_bad (by simp [hm])]
      first | refine CallK_pure e128 (c128 l hl') rfl ?_ | refine EffK_pw e128 (c128 l hl') rfl ?_ | refine EffK_pu e128 (c128 l hl') rfl ?_ | refine CCallK_pl e128 (c128 l hl') rfl rfl ?_ | refine CCallK_pm e128 (c128 l hl') rfl rfl ?_
      simp (maxSteps := 2000000) only [go_sem, ↓reduceIte, reduceCtorEq, Nat.reduceAdd, Nat.reduceMul, Nat.reduceSub, Nat.reduceLT, Nat.reduceLeDiff, Nat.reduceEqDiff, Int.reduceToNat, Int.reduceLT, Int.reduceLE, Int.reduceNeg, hm]
      first | refine CallK_pure e129 (c129 k key v) rfl ?_ | refine EffK_pw e129 (c129 k key v) rfl ?_ | refine EffK_pu e129 (c129 k key v) rfl ?_ | refine CCallK_pl e129 (c129 k key v) rfl rfl ?_ | refine CCallK_pm e129 (c129 k key v) rfl rfl ?_
      simp (maxSteps := 2000000) only [go_sem, ↓reduceIte, reduceCtorEq, Nat.reduceAdd, Nat.reduceMul, Nat.reduceSub, Nat.reduceLT, Nat.reduceLeDiff, Nat.reduceEqDiff, Int.reduceToNat, Int.reduceLT, Int.reduceLE, Int.reduceNeg, hm, hc]
      refine Fin.nt Try.results95 [2] ?_ ?_ ?_ <;> try trivial
      all_goals simp [objsLe, envLe, find, St.obj, AObj.renF, AV.renF, AV.renF1, Leaf.renF, LowAll, AV.Low, AV.Low1, Leaf.Low, AObj.Low, Ptr.renF, Ptr.Low]
  | true =>
    cases hc : cmdOk k key v with
    | false =>
      rw [cmdDo_bad (by simp [hc])]
      first | refine CallK_pure e128 (c128 l hl') rfl ?_ | refine EffK_pw e128 (c128 l hl') rfl ?_ | refine EffK_pu e128 (c128 l hl') rfl ?_ | refine CCallK_pl e128 (c128 l hl') rfl rfl ?_ | refine CCallK_pm e128 (c128 l hl') rfl rfl ?_
      simp (maxSteps := 2000000) only [go_sem, ↓reduceIte, reduceCtorEq, Nat.reduceAdd, Nat.reduceMul, Nat.reduceSub, Nat.reduceLT, Nat.reduceLeDiff, Nat.reduceEqDiff, Int.reduceToNat, Int.reduceLT, Int.reduceLE, Int.reduceNeg, hm]
      first | refine CallK_pure e129 (c129 k key v) rfl ?_ | refine EffK_pw e129 (c129 k key v) rfl ?_ | refine EffK_pu e129 (c129 k key v) rfl ?_ | refine CCallK_pl e129 (c129 k key v) rfl rfl ?_ | refine CCallK_pm e129 (c129 k key v) rfl rfl ?_
      simp (maxSteps := 2000000) only [go_sem, ↓reduceIte, reduceCtorEq, Nat.reduceAdd, Nat.reduceMul, Nat.reduceSub, Nat.reduceLT, Nat.reduceLeDiff, Nat.reduceEqDiff, Int.reduceToNat, Int.reduceLT, Int.reduceLE, Int.reduceNeg, hm, hc]
      refine Fin.nt Try.results95 [2] ?_ ?_ ?_ <;> try trivial
      all_goals simp [objsLe, envLe, find, St.obj, AObj.renF, AV.renF, AV.renF1, Leaf.renF, LowAll, AV.Low, AV.Low1, Leaf.Low, AObj.Low, Ptr.renF, Ptr.Low]
    | true =>
      first | refine CallK_pure e128 (c128 l hl') rfl ?_ | refine EffK_pw e128 (c128 l hl') rfl ?_ | refine EffK_pu e128 (c128 l hl') rfl ?_ | refine CCallK_pl e128 (c128 l hl') rfl rfl ?_ | refine CCallK_pm e128 (c128 l hl') rfl rfl ?_
      simp (maxSteps := 2000000) only [go_sem, ↓reduceIte, reduceCtorEq, Nat.reduceAdd, Nat.reduceMul, Nat.reduceSub, Nat.reduceLT, Nat.reduceLeDiff, Nat.reduceEqDiff, Int.reduceToNat, Int.reduceLT, Int.reduceLE, Int.reduceNeg, hm]
      first | refine CallK_pure e129 (c129 k key v) rfl ?_ | refine EffK_pw e129 (c129 k key v) rfl ?_ | refine EffK_pu e129 (c129 k key v) rfl ?_ | refine CCallK_pl e129 (c129 k key v) rfl rfl ?_ | refine CCallK_pm e129 (c129 k key v) rfl rfl ?_
      obtain ⟨hk, hv⟩ := cmdOk_kind hc
      have hg := mapGet_in key (mapOk_vals hm)
      simp (maxSteps := 2000000) only [go_sem, ↓reduceIte, reduceCtorEq, Nat.reduceAdd, Nat.reduceMul, Nat.reduceSub, Nat.reduceLT, Nat.reduceLeDiff, Nat.reduceEqDiff, Int.reduceToNat, Int.reduceLT, Int.reduceLE, Int.reduceNeg, hm, hc]
      first | refine CallK_pure e130 (c130 l hl' key) rfl ?_ | refine EffK_pw e130 (c130 l hl' key) rfl ?_ | refine EffK_pu e130 (c130 l hl' key) rfl ?_ | refine CCallK_pl e130 (c130 l hl' key) rfl rfl ?_ | refine CCallK_pm e130 (c130 l hl' key) rfl rfl ?_
      have h11 : ((1 : Int) == 1) = true := rfl
      have h12 : ((1 : Int) == 2) = false := rfl
      have h13 : ((1 : Int) == 3) = false := rfl
      have h14 : ((1 : Int) == 4) = false := rfl
      have h21 : ((2 : Int) == 1) = false := rfl
      have h22 : ((2 : Int) == 2) = true := rfl
      have h31 : ((3 : Int) == 1) = false := rfl
      have h32 : ((3 : Int) == 2) = false := rfl
      have h33 : ((3 : Int) == 3) = true := rfl
      have h41 : ((4 : Int) == 1) = false := rfl
      have h42 : ((4 : Int) == 2) = false := rfl
      have h43 : ((4 : Int) == 3) = false := rfl
      have h44 : ((4 : Int) == 4) = true := rfl
      rcases hk with rfl | rfl | rfl | rfl
      · rw [show cmdDo l ⟨1, key, v⟩ = (l, ⟨(mapGet key l).2, (mapGet key l).1⟩) from by simp [cmdDo, hm, hc]]
        simp (maxSteps := 2000000) only [go_sem, ↓reduceIte, reduceCtorEq, Nat.reduceAdd, Nat.reduceMul, Nat.reduceSub, Nat.reduceLT, Nat.reduceLeDiff, Nat.reduceEqDiff, Int.reduceToNat, Int.reduceLT, Int.reduceLE, Int.reduceNeg, h11, h12, h13, h14]
        refine Fin.nt Try.results95 [2] ?_ ?_ ?_ <;> try trivial
        all_goals simp [objsLe, envLe, find, St.obj, AObj.renF, AV.renF, AV.renF1, Leaf.renF, LowAll, AV.Low, AV.Low1, Leaf.Low, AObj.Low, Ptr.renF, Ptr.Low]
      · rw [show cmdDo l ⟨2, key, v⟩ = (mapPut l key v, ⟨false, 0⟩) from by simp [cmdDo, hm, hc]]
        simp (maxSteps := 2000000) only [go_sem, ↓reduceIte, reduceCtorEq, Nat.reduceAdd, Nat.reduceMul, Nat.reduceSub, Nat.reduceLT, Nat.reduceLeDiff, Nat.reduceEqDiff, Int.reduceToNat, Int.reduceLT, Int.reduceLE, Int.reduceNeg, h21, h22]
        first | refine CallK_pure e131 (c131 l (by omega) key v) rfl ?_ | refine EffK_pw e131 (c131 l (by omega) key v) rfl ?_ | refine EffK_pu e131 (c131 l (by omega) key v) rfl ?_ | refine CCallK_pl e131 (c131 l (by omega) key v) rfl rfl ?_ | refine CCallK_pm e131 (c131 l (by omega) key v) rfl rfl ?_
        refine evl ?_
        refine Fin.nt Try.results95 [3] ?_ ?_ ?_ <;> try trivial
        all_goals simp [objsLe, envLe, find, St.obj, AObj.renF, AV.renF, AV.renF1, Leaf.renF, LowAll, AV.Low, AV.Low1, Leaf.Low, AObj.Low, Ptr.renF, Ptr.Low]
      · rw [show cmdDo l ⟨3, key, v⟩ = (mapDel l key, ⟨false, 0⟩) from by simp [cmdDo, hm, hc]]
        simp (maxSteps := 2000000) only [go_sem, ↓reduceIte, reduceCtorEq, Nat.reduceAdd, Nat.reduceMul, Nat.reduceSub, Nat.reduceLT, Nat.reduceLeDiff, Nat.reduceEqDiff, Int.reduceToNat, Int.reduceLT, Int.reduceLE, Int.reduceNeg, h31, h32, h33]
        first | refine CallK_pure e132 (c132 l (by omega) key) rfl ?_ | refine EffK_pw e132 (c132 l (by omega) key) rfl ?_ | refine EffK_pu e132 (c132 l (by omega) key) rfl ?_ | refine CCallK_pl e132 (c132 l (by omega) key) rfl rfl ?_ | refine CCallK_pm e132 (c132 l (by omega) key) rfl rfl ?_
        refine evl ?_
        refine Fin.nt Try.results95 [3] ?_ ?_ ?_ <;> try trivial
        all_goals simp [objsLe, envLe, find, St.obj, AObj.renF, AV.renF, AV.renF1, Leaf.renF, LowAll, AV.Low, AV.Low1, Leaf.Low, AObj.Low, Ptr.renF, Ptr.Low]
      · rw [show cmdDo l ⟨4, key, v⟩ = (mapPut l key (((mapGet key l).1 + v) % 65536), ⟨true, ((mapGet key l).1 + v) % 65536⟩) from by simp [cmdDo, hm, hc]]
        simp (maxSteps := 2000000) only [go_sem, ↓reduceIte, reduceCtorEq, Nat.reduceAdd, Nat.reduceMul, Nat.reduceSub, Nat.reduceLT, Nat.reduceLeDiff, Nat.reduceEqDiff, Int.reduceToNat, Int.reduceLT, Int.reduceLE, Int.reduceNeg, h41, h42, h43, h44]
        first | refine CallK_pure e133 (c133 (mapGet key l).1 v hg (hv rfl)) rfl ?_ | refine EffK_pw e133 (c133 (mapGet key l).1 v hg (hv rfl)) rfl ?_ | refine EffK_pu e133 (c133 (mapGet key l).1 v hg (hv rfl)) rfl ?_ | refine CCallK_pl e133 (c133 (mapGet key l).1 v hg (hv rfl)) rfl rfl ?_ | refine CCallK_pm e133 (c133 (mapGet key l).1 v hg (hv rfl)) rfl rfl ?_
        refine evl ?_
        first | refine CallK_pure e131 (c131 l (by omega) key (((mapGet key l).1 + v) % 65536)) rfl ?_ | refine EffK_pw e131 (c131 l (by omega) key (((mapGet key l).1 + v) % 65536)) rfl ?_ | refine EffK_pu e131 (c131 l (by omega) key (((mapGet key l).1 + v) % 65536)) rfl ?_ | refine CCallK_pl e131 (c131 l (by omega) key (((mapGet key l).1 + v) % 65536)) rfl rfl ?_ | refine CCallK_pm e131 (c131 l (by omega) key (((mapGet key l).1 + v) % 65536)) rfl rfl ?_
        refine evl ?_
        refine Fin.nt Try.results95 [3] ?_ ?_ ?_ <;> try trivial
        all_goals simp [objsLe, envLe, find, St.obj, AObj.renF, AV.renF, AV.renF1, Leaf.renF, LowAll, AV.Low, AV.Low1, Leaf.Low, AObj.Low, Ptr.renF, Ptr.Low]
theorem c88 (l : List KV) (hl : l.length ≤ 8388608) (c : Cmd) : Ctr Try.prog 88 [.one (.dat (.sl 2 (l.map encKV))), .agg ((encCmd c).map .dat)] [] (.tup [.one (.own 0), .agg [.dat (.bool (cmdDo l c).2.Is), .dat (.int .i64 (cmdDo l c).2.Val)]]) [.vec 2 true ((cmdDo l c).1.map encKV)] := by
  have hl' : l.length ≤ maxLen := Nat.le_trans hl (by decide)
  obtain ⟨k, key, v⟩ := c
  simp only [encCmd, List.map_cons, List.map_nil]
  refine Ctr.bd mixed Try.func88 rfl ?_
  refine evl ?_
  refine ⟨by simp, ⟨by simp [encKV, D.flat], by simp, by omega, by omega⟩, ?_⟩
  cases hm : mapOk l with
  | false =>
    cases hc : cmdOk k key v with
    | false =>
      rw [cmdDo_bad (by simp [hm])]
      first | refine CallK_pure e121 (c121 k key v) rfl ?_ | refine EffK_pw e121 (c121 k key v) rfl ?_ | refine EffK_pu e121 (c121 k key v) rfl ?_ | refine CCallK_pl e121 (c121 k key v) rfl rfl ?_ | refine CCallK_pm e121 (c121 k key v) rfl rfl ?_
      simp (maxSteps := 2000000) only [go_sem, ↓reduceIte, reduceCtorEq, Nat.reduceAdd, Nat.reduceMul, Nat.reduceSub, Nat.reduceLT, Nat.reduceLeDiff, Nat.reduceEqDiff, Int.reduceToNat, Int.reduceLT, Int.reduceLE, Int.reduceNeg, hc]
      first | refine CallK_pure e122 (c122 l hl') rfl ?_ | refine EffK_pw e122 (c122 l hl') rfl ?_ | refine EffK_pu e122 (c122 l hl') rfl ?_ | refine CCallK_pl e122 (c122 l hl') rfl rfl ?_ | refine CCallK_pm e122 (c122 l hl') rfl rfl ?_
      simp (maxSteps := 2000000) only [go_sem, ↓reduceIte, reduceCtorEq, Nat.reduceAdd, Nat.reduceMul, Nat.reduceSub, Nat.reduceLT, Nat.reduceLeDiff, Nat.reduceEqDiff, Int.reduceToNat, Int.reduceLT, Int.reduceLE, Int.reduceNeg, hm, hc]
      refine Fin.nt Try.results88 [3] ?_ ?_ ?_ <;> try trivial
      all_goals simp [objsLe, envLe, find, St.obj, AObj.renF, AV.renF, AV.renF1, Leaf.renF, LowAll, AV.Low, AV.Low1, Leaf.Low, AObj.Low, Ptr.renF, Ptr.Low]
    | true =>
      rw [cmdDo_bad (by simp [hm])]
      first | refine CallK_pure e121 (c121 k key v) rfl ?_ | refine EffK_pw e121 (c121 k key v) rfl ?_ | refine EffK_pu e121 (c121 k key v) rfl ?_ | refine CCallK_pl e121 (c121 k key v) rfl rfl ?_ | refine CCallK_pm e121 (c121 k key v) rfl rfl ?_
      simp (maxSteps := 2000000) only [go_sem, ↓reduceIte, reduceCtorEq, Nat.reduceAdd, Nat.reduceMul, Nat.reduceSub, Nat.reduceLT, Nat.reduceLeDiff, Nat.reduceEqDiff, Int.reduceToNat, Int.reduceLT, Int.reduceLE, Int.reduceNeg, hc]
      first | refine CallK_pure e122 (c122 l hl') rfl ?_ | refine EffK_pw e122 (c122 l hl') rfl ?_ | refine EffK_pu e122 (c122 l hl') rfl ?_ | refine CCallK_pl e122 (c122 l hl') rfl rfl ?_ | refine CCallK_pm e122 (c122 l hl') rfl rfl ?_
      simp (maxSteps := 2000000) only [go_sem, ↓reduceIte, reduceCtorEq, Nat.reduceAdd, Nat.reduceMul, Nat.reduceSub, Nat.reduceLT, Nat.reduceLeDiff, Nat.reduceEqDiff, Int.reduceToNat, Int.reduceLT, Int.reduceLE, Int.reduceNeg, hm, hc]
      refine Fin.nt Try.results88 [3] ?_ ?_ ?_ <;> try trivial
      all_goals simp [objsLe, envLe, find, St.obj, AObj.renF, AV.renF, AV.renF1, Leaf.renF, LowAll, AV.Low, AV.Low1, Leaf.Low, AObj.Low, Ptr.renF, Ptr.Low]
  | true =>
    cases hc : cmdOk k key v with
    | false =>
      rw [cmdDo_bad (by simp [hc])]
      first | refine CallK_pure e121 (c121 k key v) rfl ?_ | refine EffK_pw e121 (c121 k key v) rfl ?_ | refine EffK_pu e121 (c121 k key v) rfl ?_ | refine CCallK_pl e121 (c121 k key v) rfl rfl ?_ | refine CCallK_pm e121 (c121 k key v) rfl rfl ?_
      simp (maxSteps := 2000000) only [go_sem, ↓reduceIte, reduceCtorEq, Nat.reduceAdd, Nat.reduceMul, Nat.reduceSub, Nat.reduceLT, Nat.reduceLeDiff, Nat.reduceEqDiff, Int.reduceToNat, Int.reduceLT, Int.reduceLE, Int.reduceNeg, hc]
      first | refine CallK_pure e122 (c122 l hl') rfl ?_ | refine EffK_pw e122 (c122 l hl') rfl ?_ | refine EffK_pu e122 (c122 l hl') rfl ?_ | refine CCallK_pl e122 (c122 l hl') rfl rfl ?_ | refine CCallK_pm e122 (c122 l hl') rfl rfl ?_
      simp (maxSteps := 2000000) only [go_sem, ↓reduceIte, reduceCtorEq, Nat.reduceAdd, Nat.reduceMul, Nat.reduceSub, Nat.reduceLT, Nat.reduceLeDiff, Nat.reduceEqDiff, Int.reduceToNat, Int.reduceLT, Int.reduceLE, Int.reduceNeg, hm, hc]
      refine Fin.nt Try.results88 [3] ?_ ?_ ?_ <;> try trivial
      all_goals simp [objsLe, envLe, find, St.obj, AObj.renF, AV.renF, AV.renF1, Leaf.renF, LowAll, AV.Low, AV.Low1, Leaf.Low, AObj.Low, Ptr.renF, Ptr.Low]
    | true =>
      first | refine CallK_pure e121 (c121 k key v) rfl ?_ | refine EffK_pw e121 (c121 k key v) rfl ?_ | refine EffK_pu e121 (c121 k key v) rfl ?_ | refine CCallK_pl e121 (c121 k key v) rfl rfl ?_ | refine CCallK_pm e121 (c121 k key v) rfl rfl ?_
      simp (maxSteps := 2000000) only [go_sem, ↓reduceIte, reduceCtorEq, Nat.reduceAdd, Nat.reduceMul, Nat.reduceSub, Nat.reduceLT, Nat.reduceLeDiff, Nat.reduceEqDiff, Int.reduceToNat, Int.reduceLT, Int.reduceLE, Int.reduceNeg, hc]
      first | refine CallK_pure e122 (c122 l hl') rfl ?_ | refine EffK_pw e122 (c122 l hl') rfl ?_ | refine EffK_pu e122 (c122 l hl') rfl ?_ | refine CCallK_pl e122 (c122 l hl') rfl rfl ?_ | refine CCallK_pm e122 (c122 l hl') rfl rfl ?_
      obtain ⟨hk, hv⟩ := cmdOk_kind hc
      have hg := mapGet_in key (mapOk_vals hm)
      simp (maxSteps := 2000000) only [go_sem, ↓reduceIte, reduceCtorEq, Nat.reduceAdd, Nat.reduceMul, Nat.reduceSub, Nat.reduceLT, Nat.reduceLeDiff, Nat.reduceEqDiff, Int.reduceToNat, Int.reduceLT, Int.reduceLE, Int.reduceNeg, hm, hc]
      first | refine CallK_pure e123 (c123 l hl' key) rfl ?_ | refine EffK_pw e123 (c123 l hl' key) rfl ?_ | refine EffK_pu e123 (c123 l hl' key) rfl ?_ | refine CCallK_pl e123 (c123 l hl' key) rfl rfl ?_ | refine CCallK_pm e123 (c123 l hl' key) rfl rfl ?_
      have h11 : ((1 : Int) == 1) = true := rfl
      have h12 : ((1 : Int) == 2) = false := rfl
      have h13 : ((1 : Int) == 3) = false := rfl
      have h14 : ((1 : Int) == 4) = false := rfl
      have h21 : ((2 : Int) == 1) = false := rfl
      have h22 : ((2 : Int) == 2) = true := rfl
      have h31 : ((3 : Int) == 1) = false := rfl
      have h32 : ((3 : Int) == 2) = false := rfl
      have h33 : ((3 : Int) == 3) = true := rfl
      have h41 : ((4 : Int) == 1) = false := rfl
      have h42 : ((4 : Int) == 2) = false := rfl
      have h43 : ((4 : Int) == 3) = false := rfl
      have h44 : ((4 : Int) == 4) = true := rfl
      rcases hk with rfl | rfl | rfl | rfl
      · rw [show cmdDo l ⟨1, key, v⟩ = (l, ⟨(mapGet key l).2, (mapGet key l).1⟩) from by simp [cmdDo, hm, hc]]
        simp (maxSteps := 2000000) only [go_sem, ↓reduceIte, reduceCtorEq, Nat.reduceAdd, Nat.reduceMul, Nat.reduceSub, Nat.reduceLT, Nat.reduceLeDiff, Nat.reduceEqDiff, Int.reduceToNat, Int.reduceLT, Int.reduceLE, Int.reduceNeg, h11, h12, h13, h14]
        refine Fin.nt Try.results88 [3] ?_ ?_ ?_ <;> try trivial
        all_goals simp [objsLe, envLe, find, St.obj, AObj.renF, AV.renF, AV.renF1, Leaf.renF, LowAll, AV.Low, AV.Low1, Leaf.Low, AObj.Low, Ptr.renF, Ptr.Low]
      · rw [show cmdDo l ⟨2, key, v⟩ = (mapPut l key v, ⟨false, 0⟩) from by simp [cmdDo, hm, hc]]
        simp (maxSteps := 2000000) only [go_sem, ↓reduceIte, reduceCtorEq, Nat.reduceAdd, Nat.reduceMul, Nat.reduceSub, Nat.reduceLT, Nat.reduceLeDiff, Nat.reduceEqDiff, Int.reduceToNat, Int.reduceLT, Int.reduceLE, Int.reduceNeg, h21, h22]
        first | refine CallK_pure e124 (c124 l (by omega) key v) rfl ?_ | refine EffK_pw e124 (c124 l (by omega) key v) rfl ?_ | refine EffK_pu e124 (c124 l (by omega) key v) rfl ?_ | refine CCallK_pl e124 (c124 l (by omega) key v) rfl rfl ?_ | refine CCallK_pm e124 (c124 l (by omega) key v) rfl rfl ?_
        refine evl ?_
        repeat ((with_reducible show _ = true ∧ _); refine ⟨by kernel_rfl, ?_⟩)
        refine Fin.nt Try.results88 [4] ?_ ?_ ?_ <;> try trivial
        all_goals simp [objsLe, envLe, find, St.obj, AObj.renF, AV.renF, AV.renF1, Leaf.renF, LowAll, AV.Low, AV.Low1, Leaf.Low, AObj.Low, Ptr.renF, Ptr.Low]
      · rw [show cmdDo l ⟨3, key, v⟩ = (mapDel l key, ⟨false, 0⟩) from by simp [cmdDo, hm, hc]]
        simp (maxSteps := 2000000) only [go_sem, ↓reduceIte, reduceCtorEq, Nat.reduceAdd, Nat.reduceMul, Nat.reduceSub, Nat.reduceLT, Nat.reduceLeDiff, Nat.reduceEqDiff, Int.reduceToNat, Int.reduceLT, Int.reduceLE, Int.reduceNeg, h31, h32, h33]
        first | refine CallK_pure e125 (c125 l (by omega) key) rfl ?_ | refine EffK_pw e125 (c125 l (by omega) key) rfl ?_ | refine EffK_pu e125 (c125 l (by omega) key) rfl ?_ | refine CCallK_pl e125 (c125 l (by omega) key) rfl rfl ?_ | refine CCallK_pm e125 (c125 l (by omega) key) rfl rfl ?_
        refine evl ?_
        repeat ((with_reducible show _ = true ∧ _); refine ⟨by kernel_rfl, ?_⟩)
        refine Fin.nt Try.results88 [4] ?_ ?_ ?_ <;> try trivial
        all_goals simp [objsLe, envLe, find, St.obj, AObj.renF, AV.renF, AV.renF1, Leaf.renF, LowAll, AV.Low, AV.Low1, Leaf.Low, AObj.Low, Ptr.renF, Ptr.Low]
      · rw [show cmdDo l ⟨4, key, v⟩ = (mapPut l key (((mapGet key l).1 + v) % 65536), ⟨true, ((mapGet key l).1 + v) % 65536⟩) from by simp [cmdDo, hm, hc]]
        simp (maxSteps := 2000000) only [go_sem, ↓reduceIte, reduceCtorEq, Nat.reduceAdd, Nat.reduceMul, Nat.reduceSub, Nat.reduceLT, Nat.reduceLeDiff, Nat.reduceEqDiff, Int.reduceToNat, Int.reduceLT, Int.reduceLE, Int.reduceNeg, h41, h42, h43, h44]
        first | refine CallK_pure e126 (c126 (mapGet key l).1 v hg (hv rfl)) rfl ?_ | refine EffK_pw e126 (c126 (mapGet key l).1 v hg (hv rfl)) rfl ?_ | refine EffK_pu e126 (c126 (mapGet key l).1 v hg (hv rfl)) rfl ?_ | refine CCallK_pl e126 (c126 (mapGet key l).1 v hg (hv rfl)) rfl rfl ?_ | refine CCallK_pm e126 (c126 (mapGet key l).1 v hg (hv rfl)) rfl rfl ?_
        refine evl ?_
        first | refine CallK_pure e124 (c124 l (by omega) key (((mapGet key l).1 + v) % 65536)) rfl ?_ | refine EffK_pw e124 (c124 l (by omega) key (((mapGet key l).1 + v) % 65536)) rfl ?_ | refine EffK_pu e124 (c124 l (by omega) key (((mapGet key l).1 + v) % 65536)) rfl ?_ | refine CCallK_pl e124 (c124 l (by omega) key (((mapGet key l).1 + v) % 65536)) rfl rfl ?_ | refine CCallK_pm e124 (c124 l (by omega) key (((mapGet key l).1 + v) % 65536)) rfl rfl ?_
        refine evl ?_
        first | refine CallK_pure e126 (c126 (mapGet key l).1 v hg (hv rfl)) rfl ?_ | refine EffK_pw e126 (c126 (mapGet key l).1 v hg (hv rfl)) rfl ?_ | refine EffK_pu e126 (c126 (mapGet key l).1 v hg (hv rfl)) rfl ?_ | refine CCallK_pl e126 (c126 (mapGet key l).1 v hg (hv rfl)) rfl rfl ?_ | refine CCallK_pm e126 (c126 (mapGet key l).1 v hg (hv rfl)) rfl rfl ?_
        refine evl ?_
        repeat ((with_reducible show _ = true ∧ _); refine ⟨by kernel_rfl, ?_⟩)
        refine Fin.nt Try.results88 [4] ?_ ?_ ?_ <;> try trivial
        all_goals simp [objsLe, envLe, find, St.obj, AObj.renF, AV.renF, AV.renF1, Leaf.renF, LowAll, AV.Low, AV.Low1, Leaf.Low, AObj.Low, Ptr.renF, Ptr.Low]
def cmdsGo (l : List KV) (o : List Res) : List Cmd → List KV × List Res
  | [] => (l, o)
  | c :: r => cmdsGo (cmdDo l c).1 (o ++ [(cmdDo l c).2]) r
def cmdsDo (l : List KV) (cs : List Cmd) : List KV × List Res := cmdsGo l [] cs
theorem cmdsGo_len : ∀ (r : List Cmd) (l : List KV) (o : List Res), (cmdsGo l o r).1.length ≤ l.length + r.length ∧ (cmdsGo l o r).2.length = o.length + r.length
  | [], l, o => by simp [cmdsGo]
  | c :: r, l, o => by
    unfold cmdsGo
    have h := cmdsGo_len r (cmdDo l c).1 (o ++ [(cmdDo l c).2])
    have h2 := cmdDo_len l c
    simp at h ⊢
    omega
theorem cmdsDo_len (l : List KV) (cs : List Cmd) : (cmdsDo l cs).1.length ≤ l.length + cs.length ∧ (cmdsDo l cs).2.length = cs.length := by
  have := cmdsGo_len cs l []; simpa [cmdsDo] using this
theorem c64 (l : List KV) (hl : l.length ≤ 4194304) (cs : List Cmd) (hc : cs.length ≤ 4194304) : Ctr Try.prog 64 [.one (.dat (.sl 2 (l.map encKV))), .one (.dat (.sl 3 (cs.map encCmd)))] [] (.tup [.one (.own 0), .one (.own 1)]) [.vec 2 true ((cmdsDo l cs).1.map encKV), .vec 2 true ((cmdsDo l cs).2.map encRes)] := by
  have hl' : l.length ≤ maxLen := Nat.le_trans hl (by decide)
  have hc' : cs.length ≤ maxLen := Nat.le_trans hc (by decide)
  refine Ctr.bd mixed Try.func64 rfl ?_
  refine evl ?_
  first | refine CallK_pure e94 (c94 l (by omega)) rfl ?_ | refine EffK_pw e94 (c94 l (by omega)) rfl ?_ | refine EffK_pu e94 (c94 l (by omega)) rfl ?_ | refine CCallK_pl e94 (c94 l (by omega)) rfl rfl ?_ | refine CCallK_pm e94 (c94 l (by omega)) rfl rfl ?_
  refine evl ?_
  refine ⟨by simp, ?_⟩
  refine LoopK_intro (fun zn zs => ∃ (i : Nat) (m : List KV) (o : List Res), i ≤ cs.length ∧ zn = cs.length - i ∧ (m.length ≤ l.length + i ∧ o.length = i ∧ cmdsDo l cs = cmdsGo m o (cs.drop i)) ∧ zs = mkSt [(17, .one (.dat (.int .i64 i))), (16, .one (.dat (.int .i64 (cs.length)))), (15, .one (.dat (.sl 3 (cs.map encCmd)))), (6, .one (.own 0)), (7, .one (.own 1)), (0, .one (.dat (.sl 2 (l.map encKV)))), (1, .one (.dat (.sl 3 (cs.map encCmd))))] [.vec 2 true (m.map encKV), .vec 2 true (o.map encRes)]) (cs.length) _
    (Ent.wk [0, 1]) ⟨0, l, [], by omega, by omega, ⟨by simp, by simp, rfl⟩, rfl⟩ ?_
  rintro zn zs ⟨i, m, o, hi, rfl, hinv, rfl⟩ K hK
  rcases Nat.lt_or_ge i (cs.length) with hlt | hge
  · have hdi : decide ((i : Int) < ((cs.length : Nat) : Int)) = true := decide_eq_true (by omega)
    have hw := wrap_succ hlt hc'
    obtain ⟨hm, ho, hinv⟩ := hinv
    rw [List.drop_eq_getElem_cons hlt, cmdsGo] at hinv
    have hd := cmdDo_len m cs[i]
    simp (maxSteps := 2000000) only [go_sem, ↓reduceIte, reduceCtorEq, Nat.reduceAdd, Nat.reduceMul, Nat.reduceSub, Nat.reduceLT, Nat.reduceLeDiff, Nat.reduceEqDiff, Int.reduceToNat, Int.reduceLT, Int.reduceLE, Int.reduceNeg, hdi, hw, getD_map hlt, encCmd, encRes, List.length_map]
    repeat ((with_reducible show _ ∧ _); refine scA ?_)
    first | refine CallK_pure e95 (c95 m (by omega) cs[i]) rfl ?_ | refine EffK_pw e95 (c95 m (by omega) cs[i]) rfl ?_ | refine EffK_pu e95 (c95 m (by omega) cs[i]) rfl ?_ | refine CCallK_pl e95 (c95 m (by omega) cs[i]) rfl rfl ?_ | refine CCallK_pm e95 (c95 m (by omega) cs[i]) rfl rfl ?_
    simp (maxSteps := 2000000) only [go_sem, ↓reduceIte, reduceCtorEq, Nat.reduceAdd, Nat.reduceMul, Nat.reduceSub, Nat.reduceLT, Nat.reduceLeDiff, Nat.reduceEqDiff, Int.reduceToNat, Int.reduceLT, Int.reduceLE, Int.reduceNeg, hdi, hw, getD_map hlt, encCmd, encRes, List.length_map]
    repeat ((with_reducible show _ ∧ _); refine scA ?_)
    (apply hK
     exact ⟨cs.length - (i + 1), _, by omega, Ent.wk [3, 6], i + 1, (cmdDo m cs[i]).1, o ++ [(cmdDo m cs[i]).2], by omega, rfl, ⟨by omega, by simp; omega, hinv⟩, rfl⟩)
  · have hge' : cs.length = i := by omega
    subst hge'
    have hdi : decide (((cs.length : Nat) : Int) < ((cs.length : Nat) : Int)) = false := by simp
    obtain ⟨_, _, hinv⟩ := hinv
    rw [List.drop_length, cmdsGo] at hinv
    simp (maxSteps := 2000000) only [go_sem, ↓reduceIte, reduceCtorEq, Nat.reduceAdd, Nat.reduceMul, Nat.reduceSub, Nat.reduceLT, Nat.reduceLeDiff, Nat.reduceEqDiff, Int.reduceToNat, Int.reduceLT, Int.reduceLE, Int.reduceNeg, hdi, List.length_map]
    apply hK
    rw [hinv]
    refine evl ?_
    refine Fin.nt Try.results64 [0, 1] ?_ ?_ ?_ <;> try trivial
    all_goals simp [objsLe, envLe, find, St.obj, AObj.renF, AV.renF, AV.renF1, Leaf.renF, LowAll, AV.Low, AV.Low1, Leaf.Low, AObj.Low, Ptr.renF, Ptr.Low]
theorem c58 (l : List KV) (hl : l.length ≤ 4194304) (cs : List Cmd) (hc : cs.length ≤ 4194304) : Ctr Try.prog 58 [.one (.dat (.sl 2 (l.map encKV))), .one (.dat (.sl 3 (cs.map encCmd)))] [] (.tup [.one (.own 0), .one (.own 1)]) [.vec 2 true ((cmdsDo l cs).1.map encKV), .vec 2 true ((cmdsDo l cs).2.map encRes)] := by
  have hl' : l.length ≤ maxLen := Nat.le_trans hl (by decide)
  have hc' : cs.length ≤ maxLen := Nat.le_trans hc (by decide)
  refine Ctr.bd mixed Try.func58 rfl ?_
  refine evl ?_
  refine ⟨by simp, ⟨by simp [encKV, D.flat], by simp, by omega, by omega⟩, by simp, ?_⟩
  refine LoopK_intro (fun zn zs => ∃ (i : Nat) (m : List KV) (o : List Res), i ≤ cs.length ∧ zn = cs.length - i ∧ (m.length ≤ l.length + i ∧ o.length = i ∧ cmdsDo l cs = cmdsGo m o (cs.drop i)) ∧ zs = mkSt [(8, .one (.dat (.int .i64 i))), (6, .one (.own 0)), (7, .one (.own 1)), (0, .one (.dat (.sl 2 (l.map encKV)))), (1, .one (.dat (.sl 3 (cs.map encCmd))))] [.vec 2 true (m.map encKV), .vec 2 true (o.map encRes)]) (cs.length) _
    (Ent.wk [1, 2]) ⟨0, l, [], by omega, by omega, ⟨by simp, by simp, rfl⟩, rfl⟩ ?_
  rintro zn zs ⟨i, m, o, hi, rfl, hinv, rfl⟩ K hK
  rcases Nat.lt_or_ge i (cs.length) with hlt | hge
  · have hdi : decide ((i : Int) < ((cs.length : Nat) : Int)) = true := decide_eq_true (by omega)
    have hw := wrap_succ hlt hc'
    obtain ⟨hm, ho, hinv⟩ := hinv
    rw [List.drop_eq_getElem_cons hlt, cmdsGo] at hinv
    have hd := cmdDo_len m cs[i]
    simp (maxSteps := 2000000) only [go_sem, ↓reduceIte, reduceCtorEq, Nat.reduceAdd, Nat.reduceMul, Nat.reduceSub, Nat.reduceLT, Nat.reduceLeDiff, Nat.reduceEqDiff, Int.reduceToNat, Int.reduceLT, Int.reduceLE, Int.reduceNeg, hdi, hw, getD_map hlt, encCmd, encRes, List.length_map]
    repeat ((with_reducible show _ ∧ _); refine scA ?_)
    first | refine CallK_pure e88 (c88 m (by omega) cs[i]) rfl ?_ | refine EffK_pw e88 (c88 m (by omega) cs[i]) rfl ?_ | refine EffK_pu e88 (c88 m (by omega) cs[i]) rfl ?_ | refine CCallK_pl e88 (c88 m (by omega) cs[i]) rfl rfl ?_ | refine CCallK_pm e88 (c88 m (by omega) cs[i]) rfl rfl ?_
    simp (maxSteps := 2000000) only [go_sem, ↓reduceIte, reduceCtorEq, Nat.reduceAdd, Nat.reduceMul, Nat.reduceSub, Nat.reduceLT, Nat.reduceLeDiff, Nat.reduceEqDiff, Int.reduceToNat, Int.reduceLT, Int.reduceLE, Int.reduceNeg, hdi, hw, getD_map hlt, encCmd, encRes, List.length_map]
    repeat ((with_reducible show _ ∧ _); refine scA ?_)
    (apply hK
     exact ⟨cs.length - (i + 1), _, by omega, Ent.wk [2, 5], i + 1, (cmdDo m cs[i]).1, o ++ [(cmdDo m cs[i]).2], by omega, rfl, ⟨by omega, by simp; omega, hinv⟩, rfl⟩)
  · have hge' : cs.length = i := by omega
    subst hge'
    have hdi : decide (((cs.length : Nat) : Int) < ((cs.length : Nat) : Int)) = false := by simp
    obtain ⟨_, _, hinv⟩ := hinv
    rw [List.drop_length, cmdsGo] at hinv
    simp (maxSteps := 2000000) only [go_sem, ↓reduceIte, reduceCtorEq, Nat.reduceAdd, Nat.reduceMul, Nat.reduceSub, Nat.reduceLT, Nat.reduceLeDiff, Nat.reduceEqDiff, Int.reduceToNat, Int.reduceLT, Int.reduceLE, Int.reduceNeg, hdi, List.length_map]
    apply hK
    rw [hinv]
    refine evl ?_
    refine Fin.nt Try.results58 [0, 1] ?_ ?_ ?_ <;> try trivial
    all_goals simp [objsLe, envLe, find, St.obj, AObj.renF, AV.renF, AV.renF1, Leaf.renF, LowAll, AV.Low, AV.Low1, Leaf.Low, AObj.Low, Ptr.renF, Ptr.Low]
end Go.Proofs.Ytjfpaiencojehaa.Mod
