import Derived.Test.YtkmmgklnoagedaaGreatRows
import Derived.Test.YtkmmgklnoagedaaGreatZATy
import Derived.Test.YtkmmgklnoagedaaGreatZAbsTac
import Derived.Test.YtkmmgklnoagedaaGreatZAbsData
import Derived.Test.YtkmmgklnoagedaaGreatZANum
import Derived.Test.YtkmmgklnoagedaaGreatZASl2
import Derived.WalkKit
import Derived.ProofKit
import Derived.OpenShut
/- Contracts: Map. -/
namespace Go.Proofs.YtkmmgklnoagedaaGreat.Mod
open Go.Proofs.Tryz Go.Abs Go.Proofs.YtkmmgklnoagedaaGreat.Ty Go.ChangeShapes Go.WideShapes Go.ChangeAt Go.RowKit
set_option linter.unusedSimpArgs false
set_option linter.unusedVariables false
set_option maxHeartbeats 8000000
set_option maxRecDepth 100000
def mapDel (l : List KV) (key : Int) : List KV := l.filter fun x => !(x.Key == key)
theorem ct (l : List KV) (key : Int) : (mapDel l key).length <= l.length := List.length_filter_le ..
theorem bL {l : List KV} {key : Int} {i : Nat} (hi : i < l.length) : mapDel (l.take (i + 1)) key = if l[i].Key == key then mapDel (l.take i) key else mapDel (l.take i) key ++ [l[i]] := by
 unfold mapDel
 rw [List.take_succ_eq_append_getElem hi, List.filter_append, List.filter_cons]
 cases l[i].Key == key <;> simp
theorem c268 (x : KV) (key : Int) : Ctr prog 268 [.agg ((encKV x).map .dat), .one (.ptr (.ro 1 [[.int .i64 key]] 0 0))] [] (.one (.dat (.bool (x.Key == key)))) [] := by
 simp only [encKV, List.map_cons, List.map_nil]
 refine Ctr.bd aa func268 rfl ?_
 refine evl ?_
 refine Fin.nt results268 [] ?_ ?_ ?_ <;> try trivial
theorem c162 (l : List KV) (hl : l.length <= 16777216) (key : Int) : Ctr prog 162 [.one (.dat (.sl 2 (l.map encKV))), .one (.dat (.int .i64 key))] [] (.one (.own 0)) [.vec 2 true ((mapDel l key).map encKV)] := by
 refine Ctr.bd aa func162 rfl ?_
 refine evl ?_
 refine ag e267 (c267 l hl) rfl ?_
 refine evl ?_
 refine ar [1] e266 (by simp [osOk, St.obj, find]) (c266 l hl e268 (fun x => c268 x key)) rfl ?_
 refine evl ?_
 refine Fin.nt results162 [2] ?_ ?_ ?_ <;> try trivial
 all_goals (simp [objsLe, envLe, find, St.obj, AObj.renF, AV.renF, AV.renF1, Leaf.renF, LowAll, AV.Low, AV.Low1, Leaf.Low, AObj.Low, Ptr.renF, Ptr.Low]; try rfl)
theorem c334 (l : List KV) (hl : l.length <= 16777216) (key : Int) : Ctr prog 334 [.one (.dat (.sl 2 (l.map encKV))), .one (.dat (.int .i64 key))] [] (.one (.own 0)) [.vec 2 true ((mapDel l key).map encKV)] := by
 have hl' : l.length <= maxLen := Nat.le_trans hl (by decide)
 refine Ctr.bd aa func334 rfl ?_
 refine evl ?_
 refine ⟨by simp, ?_⟩
 refine ab (fun n s => ∃ i : Nat, i <= l.length /\ n = l.length - i /\ s = mkSt [(6, .one (.dat (.int .i64 i))), (5, .one (.own 0)), (1, .one (.dat (.int .i64 key))), (0, .one (.dat (.sl 2 (l.map encKV))))] [.vec 2 true ((mapDel (l.take i) key).map encKV)]) l.length _
  (Ent.weak (ids := [0]) (by simp) rfl (by simp) (by simp [objsLe, envLe, find, St.obj, AObj.renF, AV.renF, AV.renF1, Leaf.renF, LowAll, AV.Low, AV.Low1, Leaf.Low, AObj.Low, Ptr.renF, Ptr.Low]; try simp [mapDel]) (by simp [objsLe, envLe, find, St.obj, AObj.renF, AV.renF, AV.renF1, Leaf.renF, LowAll, AV.Low, AV.Low1, Leaf.Low, AObj.Low, Ptr.renF, Ptr.Low]) (by simp [objsLe, envLe, find, St.obj, AObj.renF, AV.renF, AV.renF1, Leaf.renF, LowAll, AV.Low, AV.Low1, Leaf.Low, AObj.Low, Ptr.renF, Ptr.Low])) ⟨0, by omega, by omega, rfl⟩ ?_
 rintro n s ⟨i, hi, rfl, rfl⟩ K hK
 have hm := ct (l.take i) key
 rw [List.length_take, Nat.min_eq_left hi] at hm
 refine evl ?_
 constructor <;> intro h
 ·have hlt : i < l.length := by simpa using h
  have hw := ai hlt hl'
  have hstep := bL (key := key) hlt
  refine ⟨⟨by omega, by omega⟩, hlt, ?_⟩
  simp (maxSteps := 2000000) only [go_sem, seval, hw, ah hlt, encKV]
  constructor <;> intro h
  ·refine ⟨⟨by omega, by omega⟩, hlt, ⟨by simp [D.flat], by simp⟩, ⟨by simp [D.flat], by simp, by omega, by omega⟩, ?_⟩
   rw [if_neg (by simpa [bne] using h)] at hstep
   apply hK
   refine ⟨l.length - (i + 1), _, by omega, Ent.weak (ids := [2]) (by simp) rfl (by simp) (by rw [hstep]; simp [objsLe, envLe, find, St.obj, AObj.renF, AV.renF, AV.renF1, Leaf.renF, LowAll, AV.Low, AV.Low1, Leaf.Low, AObj.Low, Ptr.renF, Ptr.Low]; try rfl) (by simp [objsLe, envLe, find, St.obj, AObj.renF, AV.renF, AV.renF1, Leaf.renF, LowAll, AV.Low, AV.Low1, Leaf.Low, AObj.Low, Ptr.renF, Ptr.Low]) (by simp [objsLe, envLe, find, St.obj, AObj.renF, AV.renF, AV.renF1, Leaf.renF, LowAll, AV.Low, AV.Low1, Leaf.Low, AObj.Low, Ptr.renF, Ptr.Low]), i + 1, by omega, rfl, rfl⟩
  ·rw [if_pos (by simpa [bne] using h)] at hstep
   apply hK
   refine ⟨l.length - (i + 1), _, by omega, Ent.weak (ids := [0]) (by simp) rfl (by simp) (by rw [hstep]; simp [objsLe, envLe, find, St.obj, AObj.renF, AV.renF, AV.renF1, Leaf.renF, LowAll, AV.Low, AV.Low1, Leaf.Low, AObj.Low, Ptr.renF, Ptr.Low]; try rfl) (by simp [objsLe, envLe, find, St.obj, AObj.renF, AV.renF, AV.renF1, Leaf.renF, LowAll, AV.Low, AV.Low1, Leaf.Low, AObj.Low, Ptr.renF, Ptr.Low]) (by simp [objsLe, envLe, find, St.obj, AObj.renF, AV.renF, AV.renF1, Leaf.renF, LowAll, AV.Low, AV.Low1, Leaf.Low, AObj.Low, Ptr.renF, Ptr.Low]), i + 1, by omega, rfl, rfl⟩
 ·have hge : i = l.length := by simp at h; omega
  subst hge
  apply hK
  rw [List.take_length]
  refine evl ?_
  refine Fin.nt results334 [0] ?_ ?_ ?_ <;> try trivial
  all_goals exact entd
def insF {α : Type} (p : α -> Bool) (y : α) : List α -> List α
 | [] => [y]
 | a :: m => if p a then y :: a :: m else a :: insF p y m
theorem insF_len {α : Type} (p : α -> Bool) (y : α) : ∀ m : List α, (insF p y m).length = m.length + 1
 | [] => rfl
 | a :: m => by
  unfold insF
  split
  ·simp
  ·simp [insF_len p y m]
theorem insF_not {α : Type} {p : α -> Bool} {y : α} : ∀ {m : List α}, m.any p = false -> insF p y m = m ++ [y]
 | [], _ => rfl
 | a :: m, h => by
  simp only [List.any_cons, Bool.or_eq_false_iff] at h
  unfold insF
  rw [h.1, insF_not h.2]
  rfl
theorem i9 {α : Type} {p : α -> Bool} {y x : α} : ∀ {m : List α}, m.any p = true -> insF p y (m ++ [x]) = insF p y m ++ [x]
 | [], h => by simp at h
 | a :: m, h => by
  rw [List.cons_append]
  unfold insF
  cases ha : p a with
  | true => simp
  | false =>
   simp only [List.any_cons, ha, Bool.false_or] at h
   simp [i9 h]
theorem ja {α : Type} {p : α -> Bool} {y x : α} (hx : p x = true) : ∀ {m : List α}, m.any p = false -> insF p y (m ++ [x]) = m ++ [y, x]
 | [], _ => by simp [insF, hx]
 | a :: m, h => by
  simp only [List.any_cons, Bool.or_eq_false_iff] at h
  rw [List.cons_append]
  unfold insF
  rw [h.1, ja hx h.2]
  simp
theorem nr {α : Type} {p : α -> Bool} {y : α} {m : List α} (h : ∀ j (hj : j < m.length), p m[j] = false) : m.take m.length ++ y :: m.drop m.length = insF p y m := by
 rw [insF_not]
 ·simp
 ·rw [List.any_eq_false]
  intro x hx
  obtain ⟨j, hj, rfl⟩ := List.getElem_of_mem hx
  simp [h j hj]
theorem kc {α : Type} {p : α -> Bool} {y : α} : ∀ {m : List α} {i : Nat} (hi : i < m.length), p m[i] = true -> (∀ j (hj : j < m.length), j < i -> p m[j] = false) -> m.take i ++ y :: m.drop i = insF p y m
 | [], i, hi, _, _ => by simp at hi
 | a :: m, 0, _, hp, _ => by
  have hp' : p a = true := hp
  simp [insF, hp']
 | a :: m, i + 1, hi, hp, h => by
  have h0 : p a = false := h 0 (by simp) (by omega)
  have := kc (p := p) (y := y) (m := m) (i := i) (by simpa using hi) (by simpa using hp) (fun j hj hji => h (j + 1) (by simpa using hj) (by omega))
  unfold insF
  rw [h0]
  simp only [List.take_succ_cons, List.drop_succ_cons, List.cons_append, Bool.false_eq_true, if_false]
  rw [this]
def mapPut (l : List KV) (key : Int) (val : Int) : List KV := insF (fun x : KV => decide (key < x.Key)) ⟨key, val⟩ (mapDel l key)
theorem dB (l : List KV) (key : Int) (val : Int) : (mapPut l key val).length <= l.length + 1 := by
 unfold mapPut
 rw [insF_len]
 have := ct l key
 omega
def mapPutPre (l : List KV) (key : Int) (val : Int) : List KV := if (mapDel l key).any (fun x : KV => decide (key < x.Key)) then mapPut l key val else mapDel l key
theorem hZ (l : List KV) (key : Int) (val : Int) : (mapPutPre l key val).length <= l.length + 1 := by
 unfold mapPutPre
 have h1 := dB l key val
 have h2 := ct l key
 split <;> omega
theorem jU {l : List KV} {key : Int} {val : Int} {i : Nat} (hi : i < l.length) (h : (l[i].Key == key) = true) : mapPutPre (l.take (i + 1)) key val = mapPutPre (l.take i) key val /\ (mapDel (l.take (i + 1)) key).any (fun x : KV => decide (key < x.Key)) = (mapDel (l.take i) key).any (fun x : KV => decide (key < x.Key)) := by
 unfold mapPutPre mapPut
 rw [bL hi, if_pos h]
 exact ⟨rfl, rfl⟩
theorem lh {l : List KV} {key : Int} {val : Int} {i : Nat} (hi : i < l.length) (h : (l[i].Key == key) = false) (hd : (mapDel (l.take i) key).any (fun x : KV => decide (key < x.Key)) = true) : mapPutPre (l.take (i + 1)) key val = mapPutPre (l.take i) key val ++ [l[i]] /\ (mapDel (l.take (i + 1)) key).any (fun x : KV => decide (key < x.Key)) = true := by
 unfold mapPutPre mapPut
 have hs := bL (key := key) hi
 rw [if_neg (by simp [h])] at hs
 rw [hs, hd, List.any_append, hd, i9 hd]
 simp
theorem li {l : List KV} {key : Int} {val : Int} {i : Nat} (hi : i < l.length) (h : (l[i].Key == key) = false) (hd : (mapDel (l.take i) key).any (fun x : KV => decide (key < x.Key)) = false) (hx : key < l[i].Key) : mapPutPre (l.take (i + 1)) key val = mapPutPre (l.take i) key val ++ [⟨key, val⟩] ++ [l[i]] /\ (mapDel (l.take (i + 1)) key).any (fun x : KV => decide (key < x.Key)) = true := by
 have hx' : (fun x : KV => decide (key < x.Key)) l[i] = true := by simpa using hx
 unfold mapPutPre mapPut
 have hs := bL (key := key) hi
 rw [if_neg (by simp [h])] at hs
 rw [hs, hd, List.any_append, hd, ja (p := (fun x : KV => decide (key < x.Key))) hx' hd]
 simp [hx]
theorem lj {l : List KV} {key : Int} {val : Int} {i : Nat} (hi : i < l.length) (h : (l[i].Key == key) = false) (hd : (mapDel (l.take i) key).any (fun x : KV => decide (key < x.Key)) = false) (hx : ¬ key < l[i].Key) : mapPutPre (l.take (i + 1)) key val = mapPutPre (l.take i) key val ++ [l[i]] /\ (mapDel (l.take (i + 1)) key).any (fun x : KV => decide (key < x.Key)) = false := by
 unfold mapPutPre mapPut
 have hs := bL (key := key) hi
 rw [if_neg (by simp [h])] at hs
 rw [hs, hd, List.any_append, hd]
 simp [hx]
theorem lk {l : List KV} {key : Int} {val : Int} : mapPut l key val = if (mapDel l key).any (fun x : KV => decide (key < x.Key)) then mapPutPre l key val else mapPutPre l key val ++ [⟨key, val⟩] := by
 unfold mapPutPre mapPut
 split
 ·rfl
 ·rename_i h
  rw [insF_not (by simpa using h)]
theorem c164 (x : KV) (key : Int) : Ctr prog 164 [.agg ((encKV x).map .dat), .one (.ptr (.ro 1 [[.int .i64 key]] 0 0))] [] (.one (.dat (.bool (decide (key < x.Key))))) [] := by
 simp only [encKV, List.map_cons, List.map_nil]
 refine Ctr.bd aa func164 rfl ?_
 refine evl ?_
 refine Fin.nt results164 [] ?_ ?_ ?_ <;> try trivial
theorem c71 (l : List KV) (hl : l.length <= 16777216) (key val : Int) : Ctr prog 71 [.one (.dat (.sl 2 (l.map encKV))), .one (.dat (.int .i64 key)), .one (.dat (.int .i64 val))] [] (.one (.own 0)) [.vec 2 true ((mapPut l key val).map encKV)] := by
 have hm := ct l key
 have hm' : (mapDel l key).length <= maxLen := Nat.le_trans (Nat.le_trans hm hl) (by decide)
 refine Ctr.bd aa func71 rfl ?_
 refine evl ?_
 refine ag e162 (c162 l hl key) rfl ?_
 refine evl ?_
 refine ag e163 (c163 (mapDel l key) hm' e164 (fun x => c164 x key)) rfl ?_
 rcases eq (fun x : KV => decide (key < x.Key)) (mapDel l key) with ⟨e, hno⟩ | ⟨i, hi, e, hp, hno⟩
 ·rw [e]
  refine evl ?_
  refine ⟨by simp [D.flat], ?_⟩
  refine ar [1, 2] e165 (by simp [osOk, St.obj, find]) (c165 (mapDel l key) (mapDel l key).length (by omega) ⟨key, val⟩ (by omega)) rfl ?_
  rw [nr (p := fun x : KV => decide (key < x.Key)) (y := ⟨key, val⟩) hno]
  refine evl ?_
  refine Fin.nt results71 [3] ?_ ?_ ?_ <;> try trivial
  all_goals (simp [objsLe, envLe, find, St.obj, AObj.renF, AV.renF, AV.renF1, Leaf.renF, LowAll, AV.Low, AV.Low1, Leaf.Low, AObj.Low, Ptr.renF, Ptr.Low]; try rfl)
 ·rw [e]
  have hnn : decide ((i : Int) < 0) = false := by simp
  simp (maxSteps := 2000000) only [go_sem, seval, hnn]
  refine ⟨by simp [D.flat], ?_⟩
  refine ar [1, 2] e165 (by simp [osOk, St.obj, find]) (c165 (mapDel l key) i (by omega) ⟨key, val⟩ (by omega)) rfl ?_
  rw [kc (p := fun x : KV => decide (key < x.Key)) (y := ⟨key, val⟩) hi hp hno]
  refine evl ?_
  refine Fin.nt results71 [3] ?_ ?_ ?_ <;> try trivial
  all_goals (simp [objsLe, envLe, find, St.obj, AObj.renF, AV.renF, AV.renF1, Leaf.renF, LowAll, AV.Low, AV.Low1, Leaf.Low, AObj.Low, Ptr.renF, Ptr.Low]; try rfl)
theorem c67 (l : List KV) (hl : l.length <= 16777216) (key val : Int) : Ctr prog 67 [.one (.dat (.sl 2 (l.map encKV))), .one (.dat (.int .i64 key)), .one (.dat (.int .i64 val))] [] (.one (.own 0)) [.vec 2 true ((mapPut l key val).map encKV)] := by
 have hl' : l.length <= maxLen := Nat.le_trans hl (by decide)
 refine Ctr.bd aa func67 rfl ?_
 refine evl ?_
 refine ⟨by simp, ?_⟩
 refine ab (fun n s => ∃ i : Nat, i <= l.length /\ n = l.length - i /\ s = mkSt [(9, .one (.dat (.int .i64 i))), (8, .one (.dat (.bool ((mapDel (l.take i) key).any (fun x : KV => decide (key < x.Key)))))), (7, .one (.own 0)), (2, .one (.dat (.int .i64 val))), (1, .one (.dat (.int .i64 key))), (0, .one (.dat (.sl 2 (l.map encKV))))] [.vec 2 true ((mapPutPre (l.take i) key val).map encKV)]) l.length _
  (Ent.weak (ids := [0]) (by simp) rfl (by simp) (by simp [objsLe, envLe, find, St.obj, AObj.renF, AV.renF, AV.renF1, Leaf.renF, LowAll, AV.Low, AV.Low1, Leaf.Low, AObj.Low, Ptr.renF, Ptr.Low]; try simp [mapPutPre, mapDel]) (by simp [objsLe, envLe, find, St.obj, AObj.renF, AV.renF, AV.renF1, Leaf.renF, LowAll, AV.Low, AV.Low1, Leaf.Low, AObj.Low, Ptr.renF, Ptr.Low]; try simp [mapDel]) (by simp [objsLe, envLe, find, St.obj, AObj.renF, AV.renF, AV.renF1, Leaf.renF, LowAll, AV.Low, AV.Low1, Leaf.Low, AObj.Low, Ptr.renF, Ptr.Low])) ⟨0, by omega, by omega, rfl⟩ ?_
 rintro n s ⟨i, hi, rfl, rfl⟩ K hK
 have hm := hZ (l.take i) key val
 rw [List.length_take, Nat.min_eq_left hi] at hm
 rcases Nat.lt_or_ge i l.length with hlt | hge
 ·have hdi : decide ((i : Int) < l.length) = true := by simpa using hlt
  have hw := ai hlt hl'
  have hf1 : ∀ r ∈ [encKV l[i]], ∀ d ∈ r, d.flat = true := by simp [encKV, D.flat]
  have hf2 : ∀ r ∈ [encKV ⟨key, val⟩], ∀ d ∈ r, d.flat = true := by simp [encKV, D.flat]
  cases hkey : (l[i].Key == key) with
  | true =>
   simp (maxSteps := 2000000) only [go_sem, seval, hdi, hw, ah hlt, encKV, List.length_append, hkey]
   obtain ⟨s1, s2⟩ := jU (key := key) (val := val) hlt hkey
   refine ⟨⟨by omega, by omega⟩, hlt, ?_⟩
   apply hK
   exact ⟨l.length - (i + 1), _, by omega, Ent.weak (ids := [0]) (by simp) rfl (by simp) (by rw [s1]; simp [objsLe, envLe, find, St.obj, AObj.renF, AV.renF, AV.renF1, Leaf.renF, LowAll, AV.Low, AV.Low1, Leaf.Low, AObj.Low, Ptr.renF, Ptr.Low]) (by rw [s2]; simp [objsLe, envLe, find, St.obj, AObj.renF, AV.renF, AV.renF1, Leaf.renF, LowAll, AV.Low, AV.Low1, Leaf.Low, AObj.Low, Ptr.renF, Ptr.Low]) (by simp [objsLe, envLe, find, St.obj, AObj.renF, AV.renF, AV.renF1, Leaf.renF, LowAll, AV.Low, AV.Low1, Leaf.Low, AObj.Low, Ptr.renF, Ptr.Low]), i + 1, by omega, rfl, rfl⟩
  | false =>
   cases hd : (mapDel (l.take i) key).any (fun x : KV => decide (key < x.Key)) with
   | true =>
    simp (maxSteps := 2000000) only [go_sem, seval, hdi, hw, ah hlt, encKV, List.length_append, hkey, hd]
    obtain ⟨s1, s2⟩ := lh (key := key) (val := val) hlt hkey hd
    repeat' ((with_reducible show _ /\ _); apply And.intro)
    all_goals first
     | (apply hK
        exact ⟨l.length - (i + 1), _, by omega, Ent.weak (ids := [2]) (by simp) rfl (by simp) (by rw [s1]; simp [objsLe, envLe, find, St.obj, AObj.renF, AV.renF, AV.renF1, Leaf.renF, LowAll, AV.Low, AV.Low1, Leaf.Low, AObj.Low, Ptr.renF, Ptr.Low]; try rfl) (by rw [s2]; simp [objsLe, envLe, find, St.obj, AObj.renF, AV.renF, AV.renF1, Leaf.renF, LowAll, AV.Low, AV.Low1, Leaf.Low, AObj.Low, Ptr.renF, Ptr.Low]) (by simp [objsLe, envLe, find, St.obj, AObj.renF, AV.renF, AV.renF1, Leaf.renF, LowAll, AV.Low, AV.Low1, Leaf.Low, AObj.Low, Ptr.renF, Ptr.Low]), i + 1, by omega, rfl, rfl⟩)
     | (with_reducible exact hlt)
     | (with_reducible rfl)
     | exact (rfl : D.flat (.int _ _) = true)
     | exact (rfl : D.flat (.bool _) = true)
     | exact List.nodup_nil
     | exact List.not_mem_nil
     | omega
     | exact hf1
     | exact hf2
   | false =>
    by_cases hx : key < l[i].Key
    ·have hxd : decide (key < l[i].Key) = true := by simpa using hx
     simp (maxSteps := 2000000) only [go_sem, seval, hdi, hw, ah hlt, encKV, List.length_append, hkey, hd, hxd]
     obtain ⟨s1, s2⟩ := li (key := key) (val := val) hlt hkey hd hx
     repeat' ((with_reducible show _ /\ _); apply And.intro)
     all_goals first
      | (apply hK
         exact ⟨l.length - (i + 1), _, by omega, Ent.weak (ids := [4]) (by simp) rfl (by simp) (by rw [s1]; simp [objsLe, envLe, find, St.obj, AObj.renF, AV.renF, AV.renF1, Leaf.renF, LowAll, AV.Low, AV.Low1, Leaf.Low, AObj.Low, Ptr.renF, Ptr.Low]; try simp [encKV]) (by rw [s2]; simp [objsLe, envLe, find, St.obj, AObj.renF, AV.renF, AV.renF1, Leaf.renF, LowAll, AV.Low, AV.Low1, Leaf.Low, AObj.Low, Ptr.renF, Ptr.Low]) (by simp [objsLe, envLe, find, St.obj, AObj.renF, AV.renF, AV.renF1, Leaf.renF, LowAll, AV.Low, AV.Low1, Leaf.Low, AObj.Low, Ptr.renF, Ptr.Low]), i + 1, by omega, rfl, rfl⟩)
      | (with_reducible exact hlt)
      | (with_reducible rfl)
      | exact (rfl : D.flat (.int _ _) = true)
      | exact (rfl : D.flat (.bool _) = true)
      | exact List.nodup_nil
      | exact List.not_mem_nil
      | omega
      | exact hf1
      | exact hf2
    ·have hxd : decide (key < l[i].Key) = false := by simpa using hx
     simp (maxSteps := 2000000) only [go_sem, seval, hdi, hw, ah hlt, encKV, List.length_append, hkey, hd, hxd]
     obtain ⟨s1, s2⟩ := lj (key := key) (val := val) hlt hkey hd hx
     repeat' ((with_reducible show _ /\ _); apply And.intro)
     all_goals first
      | (apply hK
         exact ⟨l.length - (i + 1), _, by omega, Ent.weak (ids := [2]) (by simp) rfl (by simp) (by rw [s1]; simp [objsLe, envLe, find, St.obj, AObj.renF, AV.renF, AV.renF1, Leaf.renF, LowAll, AV.Low, AV.Low1, Leaf.Low, AObj.Low, Ptr.renF, Ptr.Low]; try rfl) (by rw [s2]; simp [objsLe, envLe, find, St.obj, AObj.renF, AV.renF, AV.renF1, Leaf.renF, LowAll, AV.Low, AV.Low1, Leaf.Low, AObj.Low, Ptr.renF, Ptr.Low]) (by simp [objsLe, envLe, find, St.obj, AObj.renF, AV.renF, AV.renF1, Leaf.renF, LowAll, AV.Low, AV.Low1, Leaf.Low, AObj.Low, Ptr.renF, Ptr.Low]), i + 1, by omega, rfl, rfl⟩)
      | (with_reducible exact hlt)
      | (with_reducible rfl)
      | exact (rfl : D.flat (.int _ _) = true)
      | exact (rfl : D.flat (.bool _) = true)
      | exact List.nodup_nil
      | exact List.not_mem_nil
      | omega
      | exact hf1
      | exact hf2
 ·have hge' : i = l.length := by omega
  subst hge'
  have hdi : decide ((l.length : Int) < l.length) = false := by simp
  rw [List.take_length] at hm ⊢
  rw [lk] at hK
  cases hd : (mapDel l key).any (fun x : KV => decide (key < x.Key)) with
  | true =>
   rw [hd, if_pos rfl] at hK
   refine sv3 ?_
   apply hK
   refine evl ?_
   refine Fin.nt results67 [0] ?_ ?_ ?_ <;> try trivial
   all_goals exact entd
  | false =>
   rw [hd, if_neg (by simp)] at hK
   refine sv3 ?_
   apply hK
   refine evl ?_
   refine ⟨⟨by simp [D.flat], by simp⟩, ⟨by simp [D.flat], by simp, by omega, by omega⟩, ?_⟩
   refine Fin.nt results67 [2] ?_ ?_ ?_ <;> try trivial
   all_goals (simp [objsLe, envLe, find, St.obj, AObj.renF, AV.renF, AV.renF1, Leaf.renF, LowAll, AV.Low, AV.Low1, Leaf.Low, AObj.Low, Ptr.renF, Ptr.Low]; try simp [encKV])
end Go.Proofs.YtkmmgklnoagedaaGreat.Mod
