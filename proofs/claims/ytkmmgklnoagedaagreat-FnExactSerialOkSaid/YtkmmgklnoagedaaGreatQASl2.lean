import Derived.Test.YtkmmgklnoagedaaGreatRows
import Derived.Test.YtkmmgklnoagedaaGreatQATy
import Derived.Test.YtkmmgklnoagedaaGreatQAbsTac
import Derived.Test.YtkmmgklnoagedaaGreatQAbsData
import Derived.Test.YtkmmgklnoagedaaGreatQAFam
import Derived.Test.YtkmmgklnoagedaaGreatQAFam2
import Derived.WalkKit
import Derived.ProofKit
import Derived.OpenShut
/- Contracts: Sl2. -/
namespace Go.Proofs.YtkmmgklnoagedaaGreat.Mod
open Go.Proofs.Tryz Go.Abs Go.Proofs.YtkmmgklnoagedaaGreat.Ty Go.ChangeShapes Go.WideShapes Go.ChangeAt Go.RowKit
set_option linter.unusedSimpArgs false
set_option linter.unusedVariables false
set_option maxHeartbeats 8000000
set_option maxRecDepth 100000
def ixF {α : Type} (p : α -> Bool) (l : List α) : Int := match l.findIdx? p with
 | some i => i
 | none => -1
theorem aH {α : Type} {p : α -> Bool} {l : List α} (h : ∀ j (hj : j < l.length), p l[j] = false) : ixF p l = -1 := by
 unfold ixF
 have : l.findIdx? p = none := by
  rw [List.findIdx?_eq_none_iff]
  intro x hx
  obtain ⟨j, hj, rfl⟩ := List.getElem_of_mem hx
  exact h j hj
 rw [this]
theorem aK {α : Type} {p : α -> Bool} {l : List α} {i : Nat} (hi : i < l.length) (hp : p l[i] = true) (h : ∀ j (hj : j < l.length), j < i -> p l[j] = false) : ixF p l = i := by
 unfold ixF
 have : l.findIdx? p = some i := by
  rw [List.findIdx?_eq_some_iff_getElem]
  refine ⟨hi, hp, fun j hj => ?_⟩
  have := h j (by omega) hj
  simp [this]
 rw [this]
theorem bi {α : Type} (p : α -> Bool) (l : List α) : (ixF p l = -1 /\ ∀ j (hj : j < l.length), p l[j] = false) \/ ∃ i, ∃ hi : i < l.length, ixF p l = i /\ p l[i] = true /\ ∀ j (hj : j < l.length), j < i -> p l[j] = false := by
 unfold ixF
 cases e : l.findIdx? p with
 | none =>
  rw [List.findIdx?_eq_none_iff] at e
  exact .inl ⟨rfl, fun j hj => e _ (List.getElem_mem hj)⟩
 | some i =>
  rw [List.findIdx?_eq_some_iff_getElem] at e
  obtain ⟨hi, hp, h⟩ := e
  exact .inr ⟨i, hi, rfl, hp, fun j hj hji => by have := h j hji; simpa using this⟩
theorem o3 {α : Type} {p : α -> Bool} {l : List α} {i : Nat} (hi : i < l.length) (hp : p l[i] = true) (h : ∀ j (hj : j < l.length), j < i -> p l[j] = false) : l.take i = (l.take (i + 1)).filter fun x => !p x := by
 rw [List.take_succ_eq_append_getElem hi, List.filter_append, List.filter_cons, hp]
 simp only [Bool.not_true, Bool.false_eq_true, if_false, List.filter_nil, List.append_nil]
 rw [List.filter_eq_self.2]
 intro x hx
 obtain ⟨j, hj, rfl⟩ := List.getElem_of_mem hx
 rw [List.length_take] at hj
 rw [List.getElem_take]
 simp [h j (by omega) (by omega)]
theorem nb {α : Type} {p : α -> Bool} {l : List α} (h : ∀ j (hj : j < l.length), p l[j] = false) : l.filter (fun x => !p x) = l := by
 rw [List.filter_eq_self]
 intro x hx
 obtain ⟨j, hj, rfl⟩ := List.getElem_of_mem hx
 simp [h j hj]
theorem nc {α : Type} {R l : List α} {j : Nat} (h : R.drop j = l.drop j) (h1 : j < R.length) (h2 : j < l.length) : R[j] = l[j] /\ R.drop (j + 1) = l.drop (j + 1) := by
 rw [List.drop_eq_getElem_cons h1, List.drop_eq_getElem_cons h2] at h
 exact ⟨(List.cons.inj h).1, (List.cons.inj h).2⟩
theorem mf {α : Type} {p : α -> Bool} {R l : List α} {i j : Nat} (ht : R.take i = (l.take j).filter fun x => !p x) (hj : j < l.length) (hp : p l[j] = true) : R.take i = (l.take (j + 1)).filter fun x => !p x := by
 rw [List.take_succ_eq_append_getElem hj, List.filter_append, List.filter_cons, hp, ht]
 simp
theorem mg {α : Type} {p : α -> Bool} {R l : List α} {i j : Nat} (ht : R.take i = (l.take j).filter fun x => !p x) (hi : i < R.length) (hj : j < l.length) (hp : p l[j] = false) : (R.set i l[j]).take (i + 1) = (l.take (j + 1)).filter fun x => !p x := by
 rw [List.take_succ_eq_append_getElem hj, List.filter_append, List.filter_cons, hp, <- ht, List.take_succ_eq_append_getElem (by simpa using hi), List.take_set_of_le (Nat.le_refl _)]
 simp
theorem nd {α : Type} {l us : List α} {i : Nat} (h : i <= l.length) : (lay l i us).take i = l.take i := by
 unfold lay splice
 rw [List.append_assoc, List.take_append_of_le_length (by simp; omega), List.take_take, Nat.min_self]
theorem gh {α : Type} {A M B us : List α} {i : Nat} (hA : A.length = i) (hM : M.length = us.length) : lay (A ++ (M ++ B)) i us = A ++ (us ++ B) := by
 subst hA
 unfold lay splice
 rw [List.take_left, <- hM, <- List.drop_drop, List.drop_left, List.drop_left, List.append_assoc]
theorem ne {α : Type} {L : List α} {X Z : α} {i n : Nat} (hn : L.length = n) (hi : i < n) :
  lay (lay (L.take i ++ List.replicate (n + 1 - i) Z) i [X]) (i + 1) (((L.drop i).take (n - i)).take (n + 1 - (i + 1))) = L.take i ++ X :: L.drop i := by
 have h1 : (L.take i).length = i := by rw [List.length_take]; omega
 have h2 : ((L.drop i).take (n - i)).take (n + 1 - (i + 1)) = L.drop i := by
  rw [List.take_of_length_le (by rw [List.length_take, List.length_drop]; omega), List.take_of_length_le (by rw [List.length_drop]; omega)]
 rw [h2, show n + 1 - i = (n - i) + 1 from by omega, List.replicate_succ]
 have h3 : lay (L.take i ++ Z :: List.replicate (n - i) Z) i [X] = L.take i ++ ([X] ++ List.replicate (n - i) Z) := gh (M := [Z]) h1 rfl
 have h4 : (L.take i ++ [X]).length = i + 1 := by rw [List.length_append, h1]; rfl
 have h5 := gh (A := L.take i ++ [X]) (M := List.replicate (n - i) Z) (B := []) (us := L.drop i) h4 (by rw [List.length_replicate, List.length_drop]; omega)
 rw [h3]
 simpa using h5
theorem ng {α : Type} {L sp : List α} {X : α} {i n : Nat} (hn : L.length = n) (hi : i < n) (hs : 0 < sp.length) :
  (lay (lay (L ++ sp) (i + 1) ((((L ++ sp).drop i).take (n + 1 - i)).take (n + 1 - (i + 1)))) i [X]).take (n + 1) = L.take i ++ X :: L.drop i := by
 have h1 : (L.take i).length = i := by rw [List.length_take]; omega
 have h2 : (((L ++ sp).drop i).take (n + 1 - i)).take (n + 1 - (i + 1)) = L.drop i := by
  rw [List.take_take, Nat.min_eq_left (by omega), List.drop_append_of_le_length (by omega), List.take_append_of_le_length (by rw [List.length_drop]; omega), List.take_of_length_le (by rw [List.length_drop]; omega)]
 rw [h2]
 have h5 : ((L ++ sp).take (i + 1)).length = i + 1 := by rw [List.length_take, List.length_append]; omega
 have h6 : L ++ sp = (L ++ sp).take (i + 1) ++ ((((L ++ sp).drop (i + 1)).take (n - i)) ++ ((L ++ sp).drop (i + 1)).drop (n - i)) := by rw [List.take_append_drop, List.take_append_drop]
 have h7 : lay (L ++ sp) (i + 1) (L.drop i) = (L ++ sp).take (i + 1) ++ (L.drop i ++ ((L ++ sp).drop (i + 1)).drop (n - i)) := by
  conv => lhs; arg 1; rw [h6]
  exact gh h5 (by rw [List.length_take, List.length_drop, List.length_append, List.length_drop]; omega)
 have h8 : (L ++ sp).take (i + 1) = L.take i ++ [L[i]'(by omega)] := by rw [List.take_append_of_le_length (by omega), List.take_succ_eq_append_getElem (by omega)]
 rw [h7, h8, List.append_assoc, gh (M := [L[i]'(by omega)]) (us := [X]) h1 rfl]
 have h9 : (L.take i ++ ([X] ++ L.drop i)).length = n + 1 := by rw [List.length_append, h1, List.length_append, List.length_drop]; simp; omega
 rw [<- List.append_assoc [X], <- List.append_assoc, List.take_left' h9]
 rfl
theorem ji {l us : List (List D)} {i : Nat} (h1 : flatRows l) (h2 : flatRows us) : flatRows (lay l i us) := fun r hr => (fP hr).elim (h1 r) (h2 r)
theorem c163 (l : List KV) (hl : l.length <= maxLen) {fid : FuncId} {m : Nat} {r : List D} {p : KV -> Bool} (he : enters prog fid = true)
  (hp : ∀ x : KV, Ctr prog fid [.agg ((encKV x).map .dat), .one (.ptr (.ro m [r] 0 0))] [] (.one (.dat (.bool (p x)))) []) :
  Ctr prog 163 [.one (.dat (.sl 2 (l.map encKV))), .one (.fn fid [.ro m [r] 0 0])] [] (.one (.dat (.int .i64 (ixF p l)))) [] := by
 refine Ctr.bd aa func163 rfl ?_
 refine evl ?_
 refine ab (fun n s => ∃ i : Nat, i <= l.length /\ n = l.length - i /\ (∀ j (hj : j < l.length), j < i -> p l[j] = false) /\ s = mkSt [(8, .one (.dat (.int .i64 i))), (7, .one (.dat (.int .i64 l.length))), (1, .one (.fn fid [.ro m [r] 0 0])), (0, .one (.dat (.sl 2 (l.map encKV))))] []) l.length _
  (Ent.wk []) ⟨0, by omega, by omega, by simp, rfl⟩ ?_
 rintro n s ⟨i, hi, rfl, ht, rfl⟩ K hK
 refine evl ?_
 constructor <;> intro h
 ·have hlt : i < l.length := by simpa using h
  have hw := ah hlt hl
  refine ⟨⟨by omega, by omega⟩, hlt, ?_⟩
  have hpx := hp l[i]
  simp only [getD_map hlt, encKV, List.map_cons, List.map_nil, List.take_succ_cons, List.take_zero] at hpx ⊢
  refine ae he hpx rfl ?_
  refine sv2 ?_
  constructor <;> intro h
  ·apply hK
   refine evl ?_
   refine Fin.nt results163 [] ?_ ?_ ?_ <;> try trivial
   (refine rsl ?_; try exact .intro)
   exact (aK hlt h ht).symm
  ·apply hK
   refine ⟨l.length - (i + 1), _, by omega, Ent.wk [], i + 1, by omega, rfl, fun j hj hji => ?_, rfl⟩
   by_cases e : j = i
   ·subst e; exact h
   ·exact ht j hj (by omega)
 ·have hge : i = l.length := by simp at h; omega
  subst hge
  apply hK
  refine evl ?_
  refine Fin.nt results163 [] ?_ ?_ ?_ <;> try trivial
  (refine rsl ?_; try exact .intro)
  exact (aH fun j hj => ht j hj hj).symm
theorem c267 (l : List KV) (hl : l.length <= 16777216) : Ctr prog 267 [.one (.dat (.sl 2 (l.map encKV)))] [] (.one (.own 0)) [.vec 2 true (l.map encKV)] := by
 refine Ctr.bd aa func267 rfl ?_
 refine evl ?_
 intro b hb
 constructor <;> intro h
 ·have : l = [] := by simpa using hb h
  subst this
  refine Fin.ent (Ent.emp (t := 2) (sz := 2) rfl) ?_
  refine evl ?_
  refine Fin.nt results267 [0] ?_ ?_ ?_ <;> try trivial
  all_goals exact entd
 ·refine ⟨by simp, ⟨by simp [encKV, D.flat], by simp, by omega, by omega⟩, ?_⟩
  refine Fin.nt results267 [1] ?_ ?_ ?_ <;> try trivial
  all_goals exact entd
theorem c266 (l : List KV) (hl : l.length <= 16777216) {fid : FuncId} {m : Nat} {r : List D} {p : KV -> Bool} (he : enters prog fid = true)
  (hp : ∀ x : KV, Ctr prog fid [.agg ((encKV x).map .dat), .one (.ptr (.ro m [r] 0 0))] [] (.one (.dat (.bool (p x)))) []) :
  Ctr prog 266 [.one (.own 0), .one (.fn fid [.ro m [r] 0 0])] [.vec 2 true (l.map encKV)] (.one (.own 1)) [.dead, .vec 2 true ((l.filter fun x => !p x).map encKV)] := by
 have hl' : l.length <= maxLen := Nat.le_trans hl (by decide)
 have hfl : ∀ R : List KV, flatRows (R.map encKV) := fun R => by simp [flatRows, encKV, D.flat]
 refine Ctr.of_body aa func266 rfl (by kernel_rfl) (Nat.le_of_ble_eq_true rfl) (by simp [AV.Clean, AV.Clean1, Leaf.Clean]) (by simp [AObj.Sep]) (by simp) ?_ (by simp [AV.Low, AV.Low1, Leaf.Low]) ?_
 ·intro o ho
  have : o = 0 := by simpa using ho
  subst this
  simp [Objs, Compat]
 show wpA _ _ _ (FinQ _ _ _ _ _) _
 refine evl ?_
 refine ae e163 (c163 l hl' he hp) rfl ?_
 rcases bi p l with ⟨e, hno⟩ | ⟨i0, hi0, e, hpi, hno⟩
 ·rw [e, nb hno]
  refine evl ?_
  refine Fin.ent (Ent.move (t := 4) (o := 0) (sz := 2) (sep := true) (rows := l.map encKV) rfl rfl (hfl l)) ?_
  refine evl ?_
  refine Fin.nt results266 [0, 1] ?_ ?_ ?_ <;> try trivial
  all_goals exact entd
 ·rw [e]
  have hne : ((i0 : Int) == -1) = false := by first | (simp; done) | (simp; omega)
  have hw0 := ah hi0 hl'
  simp (maxSteps := 2000000) only [go_sem, seval, hne, hw0]
  refine ab (fun n s => ∃ (i j : Nat) (R : List KV), j <= l.length /\ i < j /\ n = l.length - j /\ R.length = l.length /\ R.drop j = l.drop j /\ R.take i = (l.take j).filter (fun x => !p x) /\
    s = mkSt [(6, .one (.dat (.int .i64 j))), (5, .one (.dat (.int .i64 i))), (1, .one (.fn fid [.ro m [r] 0 0])), (0, .one (.own 0))] [.vec 2 true (R.map encKV)]) (l.length - (i0 + 1)) _
   (Ent.wk [0]) ⟨i0, i0 + 1, l, by omega, by omega, rfl, rfl, rfl, o3 hi0 hpi hno, rfl⟩ ?_
  rintro n s ⟨i, j, R, hj, hij, rfl, hR, hd, ht, rfl⟩ K hK
  rcases Nat.lt_or_ge j l.length with hlt | hge
  ·have hltR : j < R.length := by omega
   have hltI : i < R.length := by omega
   obtain ⟨hg, hd'⟩ := nc hd hltR hlt
   have hdj : decide ((j : Int) < l.length) = true := by simpa using hlt
   have hw1 := ah hlt hl'
   have hw2 := ah (show i < l.length by omega) hl'
   have hpx := hp l[j]
   simp only [encKV, List.map_cons, List.map_nil] at hpx
   simp (maxSteps := 2000000) only [go_sem, seval, hR, hdj, getD_map hltR, hg, encKV]
   refine ⟨⟨by omega, by omega⟩, ⟨hlt, by simp [D.flat]⟩, ?_⟩
   refine ae he hpx rfl ?_
   simp (maxSteps := 2000000) only [go_sem, seval, hR, encKV, hw1, hw2]
   constructor <;> intro h
   ·refine ⟨⟨by omega, by omega⟩, ⟨by simp [D.flat], by omega⟩, ?_⟩
    apply hK
    refine ⟨l.length - (j + 1), _, by omega, Ent.weak (ids := [0]) (by simp) rfl (by simp) (by rw [List.map_set]; simp [objsLe, envLe, find, St.obj, AObj.renF, AV.renF, AV.renF1, Leaf.renF, LowAll, AV.Low, AV.Low1, Leaf.Low, AObj.Low, Ptr.renF, Ptr.Low]; try rfl) (by simp [objsLe, envLe, find, St.obj, AObj.renF, AV.renF, AV.renF1, Leaf.renF, LowAll, AV.Low, AV.Low1, Leaf.Low, AObj.Low, Ptr.renF, Ptr.Low]) (by simp [objsLe, envLe, find, St.obj, AObj.renF, AV.renF, AV.renF1, Leaf.renF, LowAll, AV.Low, AV.Low1, Leaf.Low, AObj.Low, Ptr.renF, Ptr.Low]), i + 1, j + 1, R.set i l[j], by omega, by omega, rfl, by simp [hR], ?_, mg ht hltI hlt (by simpa using h), rfl⟩
    rw [List.drop_set_of_lt (by omega), hd']
   ·apply hK
    exact ⟨l.length - (j + 1), _, by omega, Ent.wk [0], i, j + 1, R, by omega, by omega, rfl, hR, hd', mf ht hlt (by simpa using h), rfl⟩
  ·have hje : j = l.length := by omega
   subst hje
   have hdj : decide ((l.length : Int) < l.length) = false := by simp
   simp (maxSteps := 2000000) only [go_sem, seval, hR, hdj]
   apply hK
   simp (maxSteps := 2000000) only [go_sem, seval, hR]
   have hll : (lay (R.map encKV) i (List.replicate (l.length - i) [.int .i64 0, .int .i64 0])).length = l.length := by rw [bR (by simp; omega)]; simp [hR]
   have hfin : (lay (R.map encKV) i (List.replicate (l.length - i) [.int .i64 0, .int .i64 0])).take i = (l.filter fun x => !p x).map encKV := by
    rw [nd (by simp; omega), <- List.map_take, ht, List.take_length]
   refine ⟨⟨by omega, by omega, by omega⟩, hfl R, ⟨by omega, by rw [hll]; omega⟩, ?_⟩
   refine Fin.ent (Ent.part (t := 4) (o := 0) (sz := 2) (sep := true) (n := i) (rows := lay (R.map encKV) i (List.replicate (l.length - i) [.int .i64 0, .int .i64 0])) rfl rfl (ji (hfl R) (by simp [flatRows, D.flat])) (by rw [hll]; omega)) ?_
   rw [hfin]
   refine evl ?_
   refine Fin.nt results266 [0, 1] ?_ ?_ ?_ <;> try trivial
   all_goals exact entd
theorem c165 (l : List KV) (i : Nat) (hi : i <= l.length) (x : KV) (hl : l.length <= 16777216) :
  Ctr prog 165 [.one (.own 0), .one (.dat (.int .i64 i)), .one (.own 1)] [.vec 2 true (l.map encKV), .vec 2 true [encKV x]] (.one (.own 2)) [.dead, .vec 2 true [encKV x], .vec 2 true ((l.take i ++ x :: l.drop i).map encKV)] := by
 have hl' : l.length <= maxLen := Nat.le_trans hl (by decide)
 have hfl : ∀ R : List KV, flatRows (R.map encKV) := fun R => by simp [flatRows, encKV, D.flat]
 have hfx : flatRows [encKV x] := hfl [x]
 refine Ctr.of_body aa func165 rfl (by kernel_rfl) (Nat.le_of_ble_eq_true rfl) (by simp [AV.Clean, AV.Clean1, Leaf.Clean]) (by simp [AObj.Sep]) (by simp) ?_ (by simp [AV.Low, AV.Low1, Leaf.Low]) ?_
 ·intro o ho
  have : o = 0 \/ o = 1 := by simp at ho; omega
  rcases this with rfl | rfl <;> simp [Objs, Compat]
 show wpA _ _ _ (FinQ _ _ _ _ _) _
 have h10 : (((1 : Nat) : Int) == 0) = false := rfl
 rcases Nat.lt_or_ge i l.length with hlt | hge
 ·have hE : ((i : Int) == l.length) = false := by first | (simp; done) | (simp; omega)
  have hw : IntKind.i64.wrap ((l.length : Int) + 1) = ((l.length + 1 : Nat) : Int) := by rw [IntKind.wrap_i64]; omega
  generalize hX : encKV x = X at *
  have hw2 : IntKind.i64.wrap (((l.length + 1 : Nat) : Int) - (i : Int)) = ((l.length + 1 - i : Nat) : Int) := by rw [IntKind.wrap_i64]; omega
  have hw3 : IntKind.i64.wrap ((i : Int) + ((1 : Nat) : Int)) = ((i + 1 : Nat) : Int) := by rw [IntKind.wrap_i64]; omega
  have hw4 : IntKind.i64.wrap ((l.length : Int) + ((1 : Nat) : Int)) = ((l.length + 1 : Nat) : Int) := by rw [IntKind.wrap_i64]; omega
  simp (maxSteps := 2000000) only [go_sem, ↓reduceIte, reduceCtorEq, Nat.reduceAdd, Nat.reduceMul, Nat.reduceSub, Nat.reduceLT, Nat.reduceLeDiff, Nat.reduceEqDiff, Int.reduceToNat, Int.reduceLT, Int.reduceLE, Int.reduceNeg, h10, hE, hw2, hw3, hw4]
  have hX1 : X.length = 2 := by rw [<- hX]; rfl
  refine ⟨⟨by omega, by omega, by omega⟩, hfl l, fun sp hsp => ⟨fun h => ?_, fun h => ?_⟩⟩
  ·have hs0 : sp = [] := List.eq_nil_of_length_eq_zero (by simp at h; omega)
   subst hs0
   have hT : List.take (l.length + 1 - i) [X] = [X] := List.take_of_length_le (by simp; omega)
   have hR : (List.take i (l.map encKV) ++ List.replicate (l.length + 1 - i) ([.int .i64 0, .int .i64 0] : List D)).length = l.length + 1 := by simp; omega
   have hL : (lay (List.take i (l.map encKV) ++ List.replicate (l.length + 1 - i) [.int .i64 0, .int .i64 0]) i [X]).length = l.length + 1 := by rw [bR (by rw [hR]; simp; omega), hR]
   have hfin := ne (X := X) (Z := [.int .i64 0, .int .i64 0]) (L := l.map encKV) (by simp) hlt
   have hf1 : flatRows (List.take i (l.map encKV) ++ List.replicate (l.length + 1 - i) [.int .i64 0, .int .i64 0]) := fun r hr => (List.mem_append.1 hr).elim (fun hr => hfl l r (List.mem_of_mem_take hr)) (fun hr => by rw [List.eq_of_mem_replicate hr]; simp [D.flat])
   have hf2 : flatRows (lay (List.take i (l.map encKV) ++ List.replicate (l.length + 1 - i) [.int .i64 0, .int .i64 0]) i [X]) := ji hf1 hfx
   simp (maxSteps := 2000000) only [go_sem, ↓reduceIte, reduceCtorEq, Nat.reduceAdd, Nat.reduceMul, Nat.reduceSub, Nat.reduceLT, Nat.reduceLeDiff, Nat.reduceEqDiff, Int.reduceToNat, Int.reduceLT, Int.reduceLE, Int.reduceNeg, List.append_nil, hR, hT, hL, hfin]
   refine ⟨⟨by omega, by omega⟩, ⟨by omega, by omega, by omega, by omega, by omega⟩, ⟨by omega, by omega, by omega⟩, ⟨by simpa [flatRows] using hfx, hf1⟩, ⟨by omega, by omega, by omega⟩, ⟨by omega, by omega, by omega⟩, by kernel_rfl, by kernel_rfl, hf2, ?_⟩
   refine Fin.nt results165 [0, 1, 2] ?_ ?_ ?_ <;> try trivial
   all_goals (simp [objsLe, envLe, find, St.obj, AObj.renF, AV.renF, AV.renF1, Leaf.renF, LowAll, AV.Low, AV.Low1, Leaf.Low, AObj.Low, Ptr.renF, Ptr.Low]; try simp [hX])
  ·have hs0 : 0 < sp.length := by simp at h; omega
   have hfin := ng (X := X) (L := l.map encKV) (sp := sp) (by simp) hlt hs0
   have hWl : (l.map encKV ++ sp).length = l.length + sp.length := by simp
   have hus : (List.take (l.length + 1 - (i + 1)) (List.take (l.length + 1 - i) (List.drop i (l.map encKV ++ sp)))).length = l.length - i := by
    rw [List.length_take, List.length_take, List.length_drop, hWl]; omega
   have hL1 : (lay (l.map encKV ++ sp) (i + 1) (List.take (l.length + 1 - (i + 1)) (List.take (l.length + 1 - i) (List.drop i (l.map encKV ++ sp))))).length = l.length + sp.length := by
    rw [bR (by rw [hus, hWl]; omega), hWl]
   have hT : List.take (l.length + 1 - i) [X] = [X] := List.take_of_length_le (by simp; omega)
   refine ⟨⟨by omega, by rw [hWl]; omega⟩, ⟨by omega, by omega, by rw [hWl]; omega⟩, ?_⟩
   refine jT o269 (by simp [apart, St.obj, find]; omega) ?_
   simp (maxSteps := 2000000) only [go_sem, ↓reduceIte, reduceCtorEq, Nat.reduceAdd, Nat.reduceMul, Nat.reduceSub, Nat.reduceLT, Nat.reduceLeDiff, Nat.reduceEqDiff, Int.reduceToNat, Int.reduceLT, Int.reduceLE, Int.reduceNeg, hw2, hw3, hw4, hT, hL1, hWl]
   refine ⟨⟨by omega, by omega, by omega⟩, ⟨by omega, by omega, by omega⟩, by kernel_rfl, by kernel_rfl, ⟨by omega, by omega, by omega⟩, by simpa [flatRows] using hfx, ?_⟩
   refine Fin.ent (Ent.wide (t := 6) (o := 0) (sz := 2) (m := l.length) (n := l.length + 1) rfl rfl (by rw [bR (by rw [hL1]; simp; omega), hL1]; omega)) ?_
   rw [hfin]
   refine evl ?_
   refine Fin.nt results165 [0, 1, 2] ?_ ?_ ?_ <;> try trivial
   all_goals (simp [objsLe, envLe, find, St.obj, AObj.renF, AV.renF, AV.renF1, Leaf.renF, LowAll, AV.Low, AV.Low1, Leaf.Low, AObj.Low, Ptr.renF, Ptr.Low]; try simp [hX])
 ·have hi' : i = l.length := by omega
  subst hi'
  have hE : ((l.length : Int) == l.length) = true := by simp
  simp (maxSteps := 2000000) only [go_sem, ↓reduceIte, reduceCtorEq, Nat.reduceAdd, Nat.reduceMul, Nat.reduceSub, Nat.reduceLT, Nat.reduceLeDiff, Nat.reduceEqDiff, Int.reduceToNat, Int.reduceLT, Int.reduceLE, Int.reduceNeg, h10, hE]
  refine ⟨⟨by omega, by omega, by omega⟩, ⟨by simpa [flatRows] using hfx, by simp, by omega, by omega⟩, ?_⟩
  refine Fin.nt results165 [0, 1, 2] ?_ ?_ ?_ <;> try trivial
  all_goals (simp [objsLe, envLe, find, St.obj, AObj.renF, AV.renF, AV.renF1, Leaf.renF, LowAll, AV.Low, AV.Low1, Leaf.Low, AObj.Low, Ptr.renF, Ptr.Low]; try simp)
theorem c316 (l l' : List Int) (hl : l.length <= maxLen) (hl' : l'.length <= maxLen) : Ctr prog 316 [.one (.dat (.sl 1 (l.map encI))), .one (.dat (.sl 1 (l'.map encI)))] [] (.one (.dat (.bool (decide (l = l'))))) [] := by
 refine Ctr.bd aa func316 rfl ?_
 refine evl ?_
 constructor <;> intro h
 ·have hne : l.length ≠ l'.length := by simp at h; omega
  refine Fin.nt results316 [] ?_ ?_ ?_ <;> try trivial
  (refine rsl ?_; try exact .intro)
  symm; rw [decide_eq_false_iff_not]
  intro e; exact hne (by rw [e])
 have hlen : l.length = l'.length := by simp at h; omega
 refine ab (fun n s => ∃ i : Nat, i <= l.length /\ n = l.length - i /\ l.take i = l'.take i /\ s = mkSt [(13, .one (.dat (.int .i64 i))), (12, .one (.dat (.int .i64 l.length))), (1, .one (.dat (.sl 1 (l'.map encI)))), (0, .one (.dat (.sl 1 (l.map encI))))] []) l.length _
  (Ent.wk []) ⟨0, by omega, by omega, rfl, rfl⟩ ?_
 rintro n s ⟨i, hi, rfl, ht, rfl⟩ K hK
 refine evl ?_
 constructor <;> intro h
 ·have hlt : i < l.length := by simpa using h
  have hlt' : i < l'.length := by omega
  simp only [getD_map hlt, getD_map hlt', encI, List.map_cons, List.map_nil, List.take_succ_cons, List.take_zero]
  refine sv0 ?_
  repeat' first
   | with_reducible intro h
   | ((with_reducible show _ /\ _); apply And.intro)
  all_goals try (first | assumption | exact True.intro | omega | (clear hK; simp_all; done))
  ·apply hK
   refine evl ?_
   refine Fin.nt results316 [] ?_ ?_ ?_ <;> try trivial
   (refine rsl ?_; try exact .intro)
   symm; rw [decide_eq_false_iff_not]
   rintro rfl; simp at h
  ·apply hK
   have he : l[i] = l'[i] := by simpa using h
   refine ⟨l.length - (i + 1), _, by omega, Ent.wk [], i + 1, by omega, rfl, ?_, rfl⟩
   rw [List.take_succ_eq_append_getElem hlt, List.take_succ_eq_append_getElem hlt', ht, he]
 ·have hge : i = l.length := by simp at h; omega
  subst hge
  apply hK
  refine evl ?_
  refine Fin.nt results316 [] ?_ ?_ ?_ <;> try trivial
  (refine rsl ?_; try exact .intro)
  symm; rw [decide_eq_true_iff]
  rw [List.take_of_length_le (Nat.le_refl _), List.take_of_length_le (by omega)] at ht
  exact ht
theorem c350 (l l' : List Cmd) (hl : l.length <= maxLen) (hl' : l'.length <= maxLen) : Ctr prog 350 [.one (.dat (.sl 3 (l.map encCmd))), .one (.dat (.sl 3 (l'.map encCmd)))] [] (.one (.dat (.bool (decide (l = l'))))) [] := by
 refine Ctr.bd aa func350 rfl ?_
 refine evl ?_
 constructor <;> intro h
 ·have hne : l.length ≠ l'.length := by simp at h; omega
  refine Fin.nt results350 [] ?_ ?_ ?_ <;> try trivial
  (refine rsl ?_; try exact .intro)
  symm; rw [decide_eq_false_iff_not]
  intro e; exact hne (by rw [e])
 have hlen : l.length = l'.length := by simp at h; omega
 refine ab (fun n s => ∃ i : Nat, i <= l.length /\ n = l.length - i /\ l.take i = l'.take i /\ s = mkSt [(13, .one (.dat (.int .i64 i))), (12, .one (.dat (.int .i64 l.length))), (1, .one (.dat (.sl 3 (l'.map encCmd)))), (0, .one (.dat (.sl 3 (l.map encCmd))))] []) l.length _
  (Ent.wk []) ⟨0, by omega, by omega, rfl, rfl⟩ ?_
 rintro n s ⟨i, hi, rfl, ht, rfl⟩ K hK
 refine evl ?_
 constructor <;> intro h
 ·have hlt : i < l.length := by simpa using h
  have hlt' : i < l'.length := by omega
  simp only [getD_map hlt, getD_map hlt', encCmd, List.map_cons, List.map_nil, List.take_succ_cons, List.take_zero]
  refine sv0 ?_
  repeat' first
   | with_reducible intro h
   | ((with_reducible show _ /\ _); apply And.intro)
  all_goals try (first | assumption | exact True.intro | omega | (clear hK; simp_all; done))
  ·apply hK
   refine evl ?_
   refine Fin.nt results350 [] ?_ ?_ ?_ <;> try trivial
   (refine rsl ?_; try exact .intro)
   symm; rw [decide_eq_false_iff_not]
   rintro rfl; simp at h
  ·apply hK
   have he : l[i] = l'[i] := by rw [Cmd.eq_iff]; simpa using h
   refine ⟨l.length - (i + 1), _, by omega, Ent.wk [], i + 1, by omega, rfl, ?_, rfl⟩
   rw [List.take_succ_eq_append_getElem hlt, List.take_succ_eq_append_getElem hlt', ht, he]
 ·have hge : i = l.length := by simp at h; omega
  subst hge
  apply hK
  refine evl ?_
  refine Fin.nt results350 [] ?_ ?_ ?_ <;> try trivial
  (refine rsl ?_; try exact .intro)
  symm; rw [decide_eq_true_iff]
  rw [List.take_of_length_le (Nat.le_refl _), List.take_of_length_le (by omega)] at ht
  exact ht
theorem c232 (l l' : List Res) (hl : l.length <= maxLen) (hl' : l'.length <= maxLen) : Ctr prog 232 [.one (.dat (.sl 2 (l.map encRes))), .one (.dat (.sl 2 (l'.map encRes)))] [] (.one (.dat (.bool (decide (l = l'))))) [] := by
 refine Ctr.bd aa func232 rfl ?_
 refine evl ?_
 constructor <;> intro h
 ·have hne : l.length ≠ l'.length := by simp at h; omega
  refine Fin.nt results232 [] ?_ ?_ ?_ <;> try trivial
  (refine rsl ?_; try exact .intro)
  symm; rw [decide_eq_false_iff_not]
  intro e; exact hne (by rw [e])
 have hlen : l.length = l'.length := by simp at h; omega
 refine ab (fun n s => ∃ i : Nat, i <= l.length /\ n = l.length - i /\ l.take i = l'.take i /\ s = mkSt [(13, .one (.dat (.int .i64 i))), (12, .one (.dat (.int .i64 l.length))), (1, .one (.dat (.sl 2 (l'.map encRes)))), (0, .one (.dat (.sl 2 (l.map encRes))))] []) l.length _
  (Ent.wk []) ⟨0, by omega, by omega, rfl, rfl⟩ ?_
 rintro n s ⟨i, hi, rfl, ht, rfl⟩ K hK
 refine evl ?_
 constructor <;> intro h
 ·have hlt : i < l.length := by simpa using h
  have hlt' : i < l'.length := by omega
  simp only [getD_map hlt, getD_map hlt', encRes, List.map_cons, List.map_nil, List.take_succ_cons, List.take_zero]
  refine sv0 ?_
  repeat' first
   | with_reducible intro h
   | ((with_reducible show _ /\ _); apply And.intro)
  all_goals try (first | assumption | exact True.intro | omega | (clear hK; simp_all; done))
  ·apply hK
   refine evl ?_
   refine Fin.nt results232 [] ?_ ?_ ?_ <;> try trivial
   (refine rsl ?_; try exact .intro)
   symm; rw [decide_eq_false_iff_not]
   rintro rfl; simp at h
  ·apply hK
   have he : l[i] = l'[i] := by rw [Res.eq_iff]; simpa using h
   refine ⟨l.length - (i + 1), _, by omega, Ent.wk [], i + 1, by omega, rfl, ?_, rfl⟩
   rw [List.take_succ_eq_append_getElem hlt, List.take_succ_eq_append_getElem hlt', ht, he]
 ·have hge : i = l.length := by simp at h; omega
  subst hge
  apply hK
  refine evl ?_
  refine Fin.nt results232 [] ?_ ?_ ?_ <;> try trivial
  (refine rsl ?_; try exact .intro)
  symm; rw [decide_eq_true_iff]
  rw [List.take_of_length_le (Nat.le_refl _), List.take_of_length_le (by omega)] at ht
  exact ht
theorem c314 (l l' : List Seen) (hl : l.length <= maxLen) (hl' : l'.length <= maxLen) : Ctr prog 314 [.one (.dat (.sl 2 (l.map encSeen))), .one (.dat (.sl 2 (l'.map encSeen)))] [] (.one (.dat (.bool (decide (l = l'))))) [] := by
 refine Ctr.bd aa func314 rfl ?_
 refine evl ?_
 constructor <;> intro h
 ·have hne : l.length ≠ l'.length := by simp at h; omega
  refine Fin.nt results314 [] ?_ ?_ ?_ <;> try trivial
  (refine rsl ?_; try exact .intro)
  symm; rw [decide_eq_false_iff_not]
  intro e; exact hne (by rw [e])
 have hlen : l.length = l'.length := by simp at h; omega
 refine ab (fun n s => ∃ i : Nat, i <= l.length /\ n = l.length - i /\ l.take i = l'.take i /\ s = mkSt [(13, .one (.dat (.int .i64 i))), (12, .one (.dat (.int .i64 l.length))), (1, .one (.dat (.sl 2 (l'.map encSeen)))), (0, .one (.dat (.sl 2 (l.map encSeen))))] []) l.length _
  (Ent.wk []) ⟨0, by omega, by omega, rfl, rfl⟩ ?_
 rintro n s ⟨i, hi, rfl, ht, rfl⟩ K hK
 refine evl ?_
 constructor <;> intro h
 ·have hlt : i < l.length := by simpa using h
  have hlt' : i < l'.length := by omega
  simp only [getD_map hlt, getD_map hlt', encSeen, List.map_cons, List.map_nil, List.take_succ_cons, List.take_zero]
  refine sv0 ?_
  repeat' first
   | with_reducible intro h
   | ((with_reducible show _ /\ _); apply And.intro)
  all_goals try (first | assumption | exact True.intro | omega | (clear hK; simp_all; done))
  ·apply hK
   refine evl ?_
   refine Fin.nt results314 [] ?_ ?_ ?_ <;> try trivial
   (refine rsl ?_; try exact .intro)
   symm; rw [decide_eq_false_iff_not]
   rintro rfl; simp at h
  ·apply hK
   have he : l[i] = l'[i] := by rw [Seen.eq_iff]; simpa using h
   refine ⟨l.length - (i + 1), _, by omega, Ent.wk [], i + 1, by omega, rfl, ?_, rfl⟩
   rw [List.take_succ_eq_append_getElem hlt, List.take_succ_eq_append_getElem hlt', ht, he]
 ·have hge : i = l.length := by simp at h; omega
  subst hge
  apply hK
  refine evl ?_
  refine Fin.nt results314 [] ?_ ?_ ?_ <;> try trivial
  (refine rsl ?_; try exact .intro)
  symm; rw [decide_eq_true_iff]
  rw [List.take_of_length_le (Nat.le_refl _), List.take_of_length_le (by omega)] at ht
  exact ht
theorem c315 (l l' : List Write) (hl : l.length <= maxLen) (hl' : l'.length <= maxLen) : Ctr prog 315 [.one (.dat (.sl 3 (l.map encWrite))), .one (.dat (.sl 3 (l'.map encWrite)))] [] (.one (.dat (.bool (decide (l = l'))))) [] := by
 refine Ctr.bd aa func315 rfl ?_
 refine evl ?_
 constructor <;> intro h
 ·have hne : l.length ≠ l'.length := by simp at h; omega
  refine Fin.nt results315 [] ?_ ?_ ?_ <;> try trivial
  (refine rsl ?_; try exact .intro)
  symm; rw [decide_eq_false_iff_not]
  intro e; exact hne (by rw [e])
 have hlen : l.length = l'.length := by simp at h; omega
 refine ab (fun n s => ∃ i : Nat, i <= l.length /\ n = l.length - i /\ l.take i = l'.take i /\ s = mkSt [(13, .one (.dat (.int .i64 i))), (12, .one (.dat (.int .i64 l.length))), (1, .one (.dat (.sl 3 (l'.map encWrite)))), (0, .one (.dat (.sl 3 (l.map encWrite))))] []) l.length _
  (Ent.wk []) ⟨0, by omega, by omega, rfl, rfl⟩ ?_
 rintro n s ⟨i, hi, rfl, ht, rfl⟩ K hK
 refine evl ?_
 constructor <;> intro h
 ·have hlt : i < l.length := by simpa using h
  have hlt' : i < l'.length := by omega
  simp only [getD_map hlt, getD_map hlt', encWrite, List.map_cons, List.map_nil, List.take_succ_cons, List.take_zero]
  refine sv0 ?_
  repeat' first
   | with_reducible intro h
   | ((with_reducible show _ /\ _); apply And.intro)
  all_goals try (first | assumption | exact True.intro | omega | (clear hK; simp_all; done))
  ·apply hK
   refine evl ?_
   refine Fin.nt results315 [] ?_ ?_ ?_ <;> try trivial
   (refine rsl ?_; try exact .intro)
   symm; rw [decide_eq_false_iff_not]
   rintro rfl; simp at h
  ·apply hK
   have he : l[i] = l'[i] := by rw [Write.eq_iff]; simpa using h
   refine ⟨l.length - (i + 1), _, by omega, Ent.wk [], i + 1, by omega, rfl, ?_, rfl⟩
   rw [List.take_succ_eq_append_getElem hlt, List.take_succ_eq_append_getElem hlt', ht, he]
 ·have hge : i = l.length := by simp at h; omega
  subst hge
  apply hK
  refine evl ?_
  refine Fin.nt results315 [] ?_ ?_ ?_ <;> try trivial
  (refine rsl ?_; try exact .intro)
  symm; rw [decide_eq_true_iff]
  rw [List.take_of_length_le (Nat.le_refl _), List.take_of_length_le (by omega)] at ht
  exact ht
theorem c219 (l l' : List Int) (hl : l.length <= maxLen) (hl' : l'.length <= maxLen) : Ctr prog 219 [.one (.dat (.sl 1 (l.map encI))), .one (.dat (.sl 1 (l'.map encI)))] [] (.one (.dat (.bool (decide (l = l'))))) [] := by
 refine Ctr.bd aa func219 rfl ?_
 refine evl ?_
 constructor <;> intro h
 ·have hne : l.length ≠ l'.length := by simp at h; omega
  refine Fin.nt results219 [] ?_ ?_ ?_ <;> try trivial
  (refine rsl ?_; try exact .intro)
  symm; rw [decide_eq_false_iff_not]
  intro e; exact hne (by rw [e])
 have hlen : l.length = l'.length := by simp at h; omega
 refine ab (fun n s => ∃ i : Nat, i <= l.length /\ n = l.length - i /\ l.take i = l'.take i /\ s = mkSt [(5, .one (.dat (.int .i64 i))), (1, .one (.dat (.sl 1 (l'.map encI)))), (0, .one (.dat (.sl 1 (l.map encI))))] []) l.length _
  (Ent.wk []) ⟨0, by omega, by omega, rfl, rfl⟩ ?_
 rintro n s ⟨i, hi, rfl, ht, rfl⟩ K hK
 refine evl ?_
 constructor <;> intro h
 ·have hlt : i < l.length := by simpa using h
  have hlt' : i < l'.length := by omega
  simp only [getD_map hlt, getD_map hlt', encI, List.map_cons, List.map_nil, List.take_succ_cons, List.take_zero]
  refine sv0 ?_
  repeat' first
   | with_reducible intro h
   | ((with_reducible show _ /\ _); apply And.intro)
  all_goals try (first | assumption | exact True.intro | omega | (clear hK; simp_all; done))
  ·apply hK
   refine evl ?_
   refine Fin.nt results219 [] ?_ ?_ ?_ <;> try trivial
   (refine rsl ?_; try exact .intro)
   symm; rw [decide_eq_false_iff_not]
   rintro rfl; simp at h
  ·apply hK
   have he : l[i] = l'[i] := by simpa using h
   refine ⟨l.length - (i + 1), _, by omega, Ent.wk [], i + 1, by omega, rfl, ?_, rfl⟩
   rw [List.take_succ_eq_append_getElem hlt, List.take_succ_eq_append_getElem hlt', ht, he]
 ·have hge : i = l.length := by simp at h; omega
  subst hge
  apply hK
  refine evl ?_
  refine Fin.nt results219 [] ?_ ?_ ?_ <;> try trivial
  (refine rsl ?_; try exact .intro)
  symm; rw [decide_eq_true_iff]
  rw [List.take_of_length_le (Nat.le_refl _), List.take_of_length_le (by omega)] at ht
  exact ht
theorem c289 (l l' : List Cmd) (hl : l.length <= maxLen) (hl' : l'.length <= maxLen) : Ctr prog 289 [.one (.dat (.sl 3 (l.map encCmd))), .one (.dat (.sl 3 (l'.map encCmd)))] [] (.one (.dat (.bool (decide (l = l'))))) [] := by
 refine Ctr.bd aa func289 rfl ?_
 refine evl ?_
 constructor <;> intro h
 ·have hne : l.length ≠ l'.length := by simp at h; omega
  refine Fin.nt results289 [] ?_ ?_ ?_ <;> try trivial
  (refine rsl ?_; try exact .intro)
  symm; rw [decide_eq_false_iff_not]
  intro e; exact hne (by rw [e])
 have hlen : l.length = l'.length := by simp at h; omega
 refine ab (fun n s => ∃ i : Nat, i <= l.length /\ n = l.length - i /\ l.take i = l'.take i /\ s = mkSt [(5, .one (.dat (.int .i64 i))), (1, .one (.dat (.sl 3 (l'.map encCmd)))), (0, .one (.dat (.sl 3 (l.map encCmd))))] []) l.length _
  (Ent.wk []) ⟨0, by omega, by omega, rfl, rfl⟩ ?_
 rintro n s ⟨i, hi, rfl, ht, rfl⟩ K hK
 refine evl ?_
 constructor <;> intro h
 ·have hlt : i < l.length := by simpa using h
  have hlt' : i < l'.length := by omega
  simp only [getD_map hlt, getD_map hlt', encCmd, List.map_cons, List.map_nil, List.take_succ_cons, List.take_zero]
  refine sv0 ?_
  repeat' first
   | with_reducible intro h
   | ((with_reducible show _ /\ _); apply And.intro)
  all_goals try (first | assumption | exact True.intro | omega | (clear hK; simp_all; done))
  ·apply hK
   refine evl ?_
   refine Fin.nt results289 [] ?_ ?_ ?_ <;> try trivial
   (refine rsl ?_; try exact .intro)
   symm; rw [decide_eq_false_iff_not]
   rintro rfl; simp at h
  ·apply hK
   have he : l[i] = l'[i] := by rw [Cmd.eq_iff]; simpa using h
   refine ⟨l.length - (i + 1), _, by omega, Ent.wk [], i + 1, by omega, rfl, ?_, rfl⟩
   rw [List.take_succ_eq_append_getElem hlt, List.take_succ_eq_append_getElem hlt', ht, he]
 ·have hge : i = l.length := by simp at h; omega
  subst hge
  apply hK
  refine evl ?_
  refine Fin.nt results289 [] ?_ ?_ ?_ <;> try trivial
  (refine rsl ?_; try exact .intro)
  symm; rw [decide_eq_true_iff]
  rw [List.take_of_length_le (Nat.le_refl _), List.take_of_length_le (by omega)] at ht
  exact ht
theorem c209 (l l' : List Res) (hl : l.length <= maxLen) (hl' : l'.length <= maxLen) : Ctr prog 209 [.one (.dat (.sl 2 (l.map encRes))), .one (.dat (.sl 2 (l'.map encRes)))] [] (.one (.dat (.bool (decide (l = l'))))) [] := by
 refine Ctr.bd aa func209 rfl ?_
 refine evl ?_
 constructor <;> intro h
 ·have hne : l.length ≠ l'.length := by simp at h; omega
  refine Fin.nt results209 [] ?_ ?_ ?_ <;> try trivial
  (refine rsl ?_; try exact .intro)
  symm; rw [decide_eq_false_iff_not]
  intro e; exact hne (by rw [e])
 have hlen : l.length = l'.length := by simp at h; omega
 refine ab (fun n s => ∃ i : Nat, i <= l.length /\ n = l.length - i /\ l.take i = l'.take i /\ s = mkSt [(5, .one (.dat (.int .i64 i))), (1, .one (.dat (.sl 2 (l'.map encRes)))), (0, .one (.dat (.sl 2 (l.map encRes))))] []) l.length _
  (Ent.wk []) ⟨0, by omega, by omega, rfl, rfl⟩ ?_
 rintro n s ⟨i, hi, rfl, ht, rfl⟩ K hK
 refine evl ?_
 constructor <;> intro h
 ·have hlt : i < l.length := by simpa using h
  have hlt' : i < l'.length := by omega
  simp only [getD_map hlt, getD_map hlt', encRes, List.map_cons, List.map_nil, List.take_succ_cons, List.take_zero]
  refine sv0 ?_
  repeat' first
   | with_reducible intro h
   | ((with_reducible show _ /\ _); apply And.intro)
  all_goals try (first | assumption | exact True.intro | omega | (clear hK; simp_all; done))
  ·apply hK
   refine evl ?_
   refine Fin.nt results209 [] ?_ ?_ ?_ <;> try trivial
   (refine rsl ?_; try exact .intro)
   symm; rw [decide_eq_false_iff_not]
   rintro rfl; simp at h
  ·apply hK
   have he : l[i] = l'[i] := by rw [Res.eq_iff]; simpa using h
   refine ⟨l.length - (i + 1), _, by omega, Ent.wk [], i + 1, by omega, rfl, ?_, rfl⟩
   rw [List.take_succ_eq_append_getElem hlt, List.take_succ_eq_append_getElem hlt', ht, he]
 ·have hge : i = l.length := by simp at h; omega
  subst hge
  apply hK
  refine evl ?_
  refine Fin.nt results209 [] ?_ ?_ ?_ <;> try trivial
  (refine rsl ?_; try exact .intro)
  symm; rw [decide_eq_true_iff]
  rw [List.take_of_length_le (Nat.le_refl _), List.take_of_length_le (by omega)] at ht
  exact ht
theorem a7 {α : Type} (p : α -> Bool) (l : List α) : decide (0 <= ixF p l) = l.any p := by
 rcases bi p l with ⟨e, hno⟩ | ⟨i, hi, e, hp, _⟩
 ·rw [e]
  symm
  have : l.any p = false := by
   rw [List.any_eq_false]
   intro x hx
   obtain ⟨j, hj, rfl⟩ := List.getElem_of_mem hx
   simp [hno j hj]
  rw [this]; rfl
 ·rw [e]
  have : l.any p = true := List.any_eq_true.2 ⟨_, List.getElem_mem hi, hp⟩
  rw [this]; simp
theorem c300 (l : List Int) (hl : l.length <= maxLen) (v : Int) : Ctr prog 300 [.one (.dat (.sl 1 (l.map encI))), .one (.dat (.int .i64 v))] [] (.one (.dat (.int .i64 (ixF (fun x => x == v) l)))) [] := by
 refine Ctr.bd aa func300 rfl ?_
 refine evl ?_
 refine ab (fun zn zs => ∃ i : Nat, i <= l.length /\ zn = l.length - i /\ (∀ j (hj : j < l.length), j < i -> (l[j] == v) = false) /\ zs = mkSt [(8, .one (.dat (.int .i64 i))), (7, .one (.dat (.int .i64 (l.length)))), (0, .one (.dat (.sl 1 (l.map encI)))), (1, .one (.dat (.int .i64 v)))] []) (l.length) _
  (Ent.wk []) ⟨0, by omega, by omega, by simp, rfl⟩ ?_
 rintro zn zs ⟨i, hi, rfl, hinv, rfl⟩ K hK
 rcases Nat.lt_or_ge i (l.length) with hlt | hge
 ·have hdi : decide ((i : Int) < ((l.length : Nat) : Int)) = true := decide_eq_true (by omega)
  have hw := ah hlt hl
  refine sv13 ?_
  refine ⟨⟨by omega, by omega⟩, hlt, ?_⟩
  constructor <;> intro h
  ·apply hK
   refine evl ?_
   refine Fin.nt results300 [] ?_ ?_ ?_ <;> try trivial
   (refine rsl ?_; try exact .intro)
   exact (aK (p := fun x => x == v) hlt (BEq.comm.trans h) hinv).symm
  ·(apply hK
    exact ⟨l.length - (i + 1), _, by omega, Ent.wk [], i + 1, by omega, rfl, fun j hj hji => if e : j = i then by subst e; exact BEq.comm.trans h else hinv j hj (by omega), rfl⟩)
 ·have hge' : l.length = i := by omega
  subst hge'
  have hdi : decide (((l.length : Nat) : Int) < ((l.length : Nat) : Int)) = false := by simp
  refine sv3 ?_
  apply hK
  refine evl ?_
  refine Fin.nt results300 [] ?_ ?_ ?_ <;> try trivial
  (refine rsl ?_; try exact .intro)
  exact (aH fun j hj => hinv j hj hj).symm
theorem c233 (l : List Int) (hl : l.length <= maxLen) (v : Int) : Ctr prog 233 [.one (.dat (.sl 1 (l.map encI))), .one (.dat (.int .i64 v))] [] (.one (.dat (.bool (l.any fun x => x == v)))) [] := by
 refine Ctr.bd aa func233 rfl ?_
 refine evl ?_
 refine ae e300 (c300 l hl v) rfl ?_
 refine evl ?_
 refine Fin.nt results233 [] ?_ ?_ ?_ <;> try trivial
 (refine rsl ?_; try exact .intro)
 exact a7 _ l
theorem nV (l : List Int) (hl : l.length <= maxLen) {fid : FuncId} {p : Int -> Bool} (he : enters prog fid = true)
  (hp : ∀ x ∈ l, Ctr prog fid [.one (.dat (.int .i64 x))] [] (.one (.dat (.bool (p x)))) []) : Ctr prog 234 [.one (.dat (.sl 1 (l.map encI))), .one (.fn fid [])] [] (.one (.dat (.int .i64 (ixF p l)))) [] := by
 refine Ctr.bd aa func234 rfl ?_
 refine evl ?_
 refine ab (fun n s => ∃ i : Nat, i <= l.length /\ n = l.length - i /\ (∀ j (hj : j < l.length), j < i -> p l[j] = false) /\ s = mkSt [(8, .one (.dat (.int .i64 i))), (7, .one (.dat (.int .i64 l.length))), (1, .one (.fn fid [])), (0, .one (.dat (.sl 1 (l.map encI))))] []) l.length _
  (Ent.wk []) ⟨0, by omega, by omega, by simp, rfl⟩ ?_
 rintro n s ⟨i, hi, rfl, ht, rfl⟩ K hK
 refine evl ?_
 constructor <;> intro h
 ·have hlt : i < l.length := by simpa using h
  have hw := ah hlt hl
  refine ⟨⟨by omega, by omega⟩, hlt, ?_⟩
  have hpx := hp l[i] (List.getElem_mem hlt)
  simp only [getD_map hlt, encI, List.map_cons, List.map_nil, List.take_succ_cons, List.take_zero, List.getD_cons_zero] at hpx ⊢
  refine ae he hpx rfl ?_
  refine sv2 ?_
  constructor <;> intro h
  ·apply hK
   refine evl ?_
   refine Fin.nt results234 [] ?_ ?_ ?_ <;> try trivial
   (refine rsl ?_; try exact .intro)
   exact (aK hlt h ht).symm
  ·apply hK
   refine ⟨l.length - (i + 1), _, by omega, Ent.wk [], i + 1, by omega, rfl, fun j hj hji => ?_, rfl⟩
   by_cases e : j = i
   ·subst e; exact h
   ·exact ht j hj (by omega)
 ·have hge : i = l.length := by simp at h; omega
  subst hge
  apply hK
  refine evl ?_
  refine Fin.nt results234 [] ?_ ?_ ?_ <;> try trivial
  (refine rsl ?_; try exact .intro)
  exact (aH fun j hj => ht j hj hj).symm
theorem dk (l : List Int) (hl : l.length <= maxLen) {fid : FuncId} {p : Int -> Bool} (he : enters prog fid = true)
  (hp : ∀ x ∈ l, Ctr prog fid [.one (.dat (.int .i64 x))] [] (.one (.dat (.bool (p x)))) []) : Ctr prog 139 [.one (.dat (.sl 1 (l.map encI))), .one (.fn fid [])] [] (.one (.dat (.bool (l.any p)))) [] := by
 refine Ctr.bd aa func139 rfl ?_
 refine evl ?_
 refine ae e234 (nV l hl he hp) rfl ?_
 refine evl ?_
 refine Fin.nt results139 [] ?_ ?_ ?_ <;> try trivial
 (refine rsl ?_; try exact .intro)
 exact a7 p l
theorem nW (l : List Int) (hl : l.length <= maxLen) {fid : FuncId} {m m2 : Nat} {r r2 : List D} {p : Int -> Bool} (he : enters prog fid = true)
  (hp : ∀ x ∈ l, Ctr prog fid [.one (.dat (.int .i64 x)), .one (.ptr (.ro m [r] 0 0)), .one (.ptr (.ro m2 [r2] 0 0))] [] (.one (.dat (.bool (p x)))) []) : Ctr prog 234 [.one (.dat (.sl 1 (l.map encI))), .one (.fn fid [.ro m [r] 0 0, .ro m2 [r2] 0 0])] [] (.one (.dat (.int .i64 (ixF p l)))) [] := by
 refine Ctr.bd aa func234 rfl ?_
 refine evl ?_
 refine ab (fun n s => ∃ i : Nat, i <= l.length /\ n = l.length - i /\ (∀ j (hj : j < l.length), j < i -> p l[j] = false) /\ s = mkSt [(8, .one (.dat (.int .i64 i))), (7, .one (.dat (.int .i64 l.length))), (1, .one (.fn fid [.ro m [r] 0 0, .ro m2 [r2] 0 0])), (0, .one (.dat (.sl 1 (l.map encI))))] []) l.length _
  (Ent.wk []) ⟨0, by omega, by omega, by simp, rfl⟩ ?_
 rintro n s ⟨i, hi, rfl, ht, rfl⟩ K hK
 refine evl ?_
 constructor <;> intro h
 ·have hlt : i < l.length := by simpa using h
  have hw := ah hlt hl
  refine ⟨⟨by omega, by omega⟩, hlt, ?_⟩
  have hpx := hp l[i] (List.getElem_mem hlt)
  simp only [getD_map hlt, encI, List.map_cons, List.map_nil, List.take_succ_cons, List.take_zero, List.getD_cons_zero] at hpx ⊢
  refine ae he hpx rfl ?_
  refine sv2 ?_
  constructor <;> intro h
  ·apply hK
   refine evl ?_
   refine Fin.nt results234 [] ?_ ?_ ?_ <;> try trivial
   (refine rsl ?_; try exact .intro)
   exact (aK hlt h ht).symm
  ·apply hK
   refine ⟨l.length - (i + 1), _, by omega, Ent.wk [], i + 1, by omega, rfl, fun j hj hji => ?_, rfl⟩
   by_cases e : j = i
   ·subst e; exact h
   ·exact ht j hj (by omega)
 ·have hge : i = l.length := by simp at h; omega
  subst hge
  apply hK
  refine evl ?_
  refine Fin.nt results234 [] ?_ ?_ ?_ <;> try trivial
  (refine rsl ?_; try exact .intro)
  exact (aH fun j hj => ht j hj hj).symm
theorem nX (l : List Int) (hl : l.length <= maxLen) {fid : FuncId} {m m2 : Nat} {r r2 : List D} {p : Int -> Bool} (he : enters prog fid = true)
  (hp : ∀ x ∈ l, Ctr prog fid [.one (.dat (.int .i64 x)), .one (.ptr (.ro m [r] 0 0)), .one (.ptr (.ro m2 [r2] 0 0))] [] (.one (.dat (.bool (p x)))) []) : Ctr prog 139 [.one (.dat (.sl 1 (l.map encI))), .one (.fn fid [.ro m [r] 0 0, .ro m2 [r2] 0 0])] [] (.one (.dat (.bool (l.any p)))) [] := by
 refine Ctr.bd aa func139 rfl ?_
 refine evl ?_
 refine ae e234 (nW l hl he hp) rfl ?_
 refine evl ?_
 refine Fin.nt results139 [] ?_ ?_ ?_ <;> try trivial
 (refine rsl ?_; try exact .intro)
 exact a7 p l
theorem nY (l : List SList) (hl : l.length <= maxLen) {fid : FuncId} {m : Nat} {r : List D} {p : SList -> Bool} (he : enters prog fid = true)
  (hp : ∀ x ∈ l, Ctr prog fid [.agg ((encSList x).map .dat), .one (.ptr (.ro m [r] 0 0))] [] (.one (.dat (.bool (p x)))) []) : Ctr prog 370 [.one (.dat (.sl 1 (l.map encSList))), .one (.fn fid [.ro m [r] 0 0])] [] (.one (.dat (.int .i64 (ixF p l)))) [] := by
 refine Ctr.bd aa func370 rfl ?_
 refine evl ?_
 refine ab (fun n s => ∃ i : Nat, i <= l.length /\ n = l.length - i /\ (∀ j (hj : j < l.length), j < i -> p l[j] = false) /\ s = mkSt [(8, .one (.dat (.int .i64 i))), (7, .one (.dat (.int .i64 l.length))), (1, .one (.fn fid [.ro m [r] 0 0])), (0, .one (.dat (.sl 1 (l.map encSList))))] []) l.length _
  (Ent.wk []) ⟨0, by omega, by omega, by simp, rfl⟩ ?_
 rintro n s ⟨i, hi, rfl, ht, rfl⟩ K hK
 refine evl ?_
 constructor <;> intro h
 ·have hlt : i < l.length := by simpa using h
  have hw := ah hlt hl
  refine ⟨⟨by omega, by omega⟩, hlt, ?_⟩
  have hpx := hp l[i] (List.getElem_mem hlt)
  simp only [getD_map hlt, encSList, List.map_cons, List.map_nil, List.take_succ_cons, List.take_zero, List.getD_cons_zero] at hpx ⊢
  refine ae he hpx rfl ?_
  refine sv2 ?_
  constructor <;> intro h
  ·apply hK
   refine evl ?_
   refine Fin.nt results370 [] ?_ ?_ ?_ <;> try trivial
   (refine rsl ?_; try exact .intro)
   exact (aK hlt h ht).symm
  ·apply hK
   refine ⟨l.length - (i + 1), _, by omega, Ent.wk [], i + 1, by omega, rfl, fun j hj hji => ?_, rfl⟩
   by_cases e : j = i
   ·subst e; exact h
   ·exact ht j hj (by omega)
 ·have hge : i = l.length := by simp at h; omega
  subst hge
  apply hK
  refine evl ?_
  refine Fin.nt results370 [] ?_ ?_ ?_ <;> try trivial
  (refine rsl ?_; try exact .intro)
  exact (aH fun j hj => ht j hj hj).symm
theorem ki (l : List SList) (hl : l.length <= maxLen) {fid : FuncId} {m : Nat} {r : List D} {p : SList -> Bool} (he : enters prog fid = true)
  (hp : ∀ x ∈ l, Ctr prog fid [.agg ((encSList x).map .dat), .one (.ptr (.ro m [r] 0 0))] [] (.one (.dat (.bool (p x)))) []) : Ctr prog 366 [.one (.dat (.sl 1 (l.map encSList))), .one (.fn fid [.ro m [r] 0 0])] [] (.one (.dat (.bool (l.any p)))) [] := by
 refine Ctr.bd aa func366 rfl ?_
 refine evl ?_
 refine ae e370 (nY l hl he hp) rfl ?_
 refine evl ?_
 refine Fin.nt results366 [] ?_ ?_ ?_ <;> try trivial
 (refine rsl ?_; try exact .intro)
 exact a7 p l
theorem nZ (l : List Pin) (hl : l.length <= maxLen) {fid : FuncId} {m : Nat} {r : List D} {p : Pin -> Bool} (he : enters prog fid = true)
  (hp : ∀ x ∈ l, Ctr prog fid [.agg ((encPin x).map .dat), .one (.ptr (.ro m [r] 0 0))] [] (.one (.dat (.bool (p x)))) []) : Ctr prog 347 [.one (.dat (.sl 4 (l.map encPin))), .one (.fn fid [.ro m [r] 0 0])] [] (.one (.dat (.int .i64 (ixF p l)))) [] := by
 refine Ctr.bd aa func347 rfl ?_
 refine evl ?_
 refine ab (fun n s => ∃ i : Nat, i <= l.length /\ n = l.length - i /\ (∀ j (hj : j < l.length), j < i -> p l[j] = false) /\ s = mkSt [(8, .one (.dat (.int .i64 i))), (7, .one (.dat (.int .i64 l.length))), (1, .one (.fn fid [.ro m [r] 0 0])), (0, .one (.dat (.sl 4 (l.map encPin))))] []) l.length _
  (Ent.wk []) ⟨0, by omega, by omega, by simp, rfl⟩ ?_
 rintro n s ⟨i, hi, rfl, ht, rfl⟩ K hK
 refine evl ?_
 constructor <;> intro h
 ·have hlt : i < l.length := by simpa using h
  have hw := ah hlt hl
  refine ⟨⟨by omega, by omega⟩, hlt, ?_⟩
  have hpx := hp l[i] (List.getElem_mem hlt)
  simp only [getD_map hlt, encPin, List.map_cons, List.map_nil, List.take_succ_cons, List.take_zero, List.getD_cons_zero] at hpx ⊢
  refine ae he hpx rfl ?_
  refine sv2 ?_
  constructor <;> intro h
  ·apply hK
   refine evl ?_
   refine Fin.nt results347 [] ?_ ?_ ?_ <;> try trivial
   (refine rsl ?_; try exact .intro)
   exact (aK hlt h ht).symm
  ·apply hK
   refine ⟨l.length - (i + 1), _, by omega, Ent.wk [], i + 1, by omega, rfl, fun j hj hji => ?_, rfl⟩
   by_cases e : j = i
   ·subst e; exact h
   ·exact ht j hj (by omega)
 ·have hge : i = l.length := by simp at h; omega
  subst hge
  apply hK
  refine evl ?_
  refine Fin.nt results347 [] ?_ ?_ ?_ <;> try trivial
  (refine rsl ?_; try exact .intro)
  exact (aH fun j hj => ht j hj hj).symm
theorem n4 (l : List Pin) (hl : l.length <= maxLen) {fid : FuncId} {m : Nat} {r : List D} {p : Pin -> Bool} (he : enters prog fid = true)
  (hp : ∀ x ∈ l, Ctr prog fid [.agg ((encPin x).map .dat), .one (.ptr (.ro m [r] 0 0))] [] (.one (.dat (.bool (p x)))) []) : Ctr prog 304 [.one (.dat (.sl 4 (l.map encPin))), .one (.fn fid [.ro m [r] 0 0])] [] (.one (.dat (.bool (l.any p)))) [] := by
 refine Ctr.bd aa func304 rfl ?_
 refine evl ?_
 refine ae e347 (nZ l hl he hp) rfl ?_
 refine evl ?_
 refine Fin.nt results304 [] ?_ ?_ ?_ <;> try trivial
 (refine rsl ?_; try exact .intro)
 exact a7 p l
theorem n5 (l : List LRow) (hl : l.length <= maxLen) {fid : FuncId} {m : Nat} {r : List D} {p : LRow -> Bool} (he : enters prog fid = true)
  (hp : ∀ x ∈ l, Ctr prog fid [.agg ((encLRow x).map .dat), .one (.ptr (.ro m [r] 0 0))] [] (.one (.dat (.bool (p x)))) []) : Ctr prog 310 [.one (.dat (.sl 2 (l.map encLRow))), .one (.fn fid [.ro m [r] 0 0])] [] (.one (.dat (.int .i64 (ixF p l)))) [] := by
 refine Ctr.bd aa func310 rfl ?_
 refine evl ?_
 refine ab (fun n s => ∃ i : Nat, i <= l.length /\ n = l.length - i /\ (∀ j (hj : j < l.length), j < i -> p l[j] = false) /\ s = mkSt [(8, .one (.dat (.int .i64 i))), (7, .one (.dat (.int .i64 l.length))), (1, .one (.fn fid [.ro m [r] 0 0])), (0, .one (.dat (.sl 2 (l.map encLRow))))] []) l.length _
  (Ent.wk []) ⟨0, by omega, by omega, by simp, rfl⟩ ?_
 rintro n s ⟨i, hi, rfl, ht, rfl⟩ K hK
 refine evl ?_
 constructor <;> intro h
 ·have hlt : i < l.length := by simpa using h
  have hw := ah hlt hl
  refine ⟨⟨by omega, by omega⟩, hlt, ?_⟩
  have hpx := hp l[i] (List.getElem_mem hlt)
  simp only [getD_map hlt, encLRow, List.map_cons, List.map_nil, List.take_succ_cons, List.take_zero, List.getD_cons_zero] at hpx ⊢
  refine ae he hpx rfl ?_
  refine sv2 ?_
  constructor <;> intro h
  ·apply hK
   refine evl ?_
   refine Fin.nt results310 [] ?_ ?_ ?_ <;> try trivial
   (refine rsl ?_; try exact .intro)
   exact (aK hlt h ht).symm
  ·apply hK
   refine ⟨l.length - (i + 1), _, by omega, Ent.wk [], i + 1, by omega, rfl, fun j hj hji => ?_, rfl⟩
   by_cases e : j = i
   ·subst e; exact h
   ·exact ht j hj (by omega)
 ·have hge : i = l.length := by simp at h; omega
  subst hge
  apply hK
  refine evl ?_
  refine Fin.nt results310 [] ?_ ?_ ?_ <;> try trivial
  (refine rsl ?_; try exact .intro)
  exact (aH fun j hj => ht j hj hj).symm
theorem n6 (l : List LRow) (hl : l.length <= maxLen) {fid : FuncId} {m : Nat} {r : List D} {p : LRow -> Bool} (he : enters prog fid = true)
  (hp : ∀ x ∈ l, Ctr prog fid [.agg ((encLRow x).map .dat), .one (.ptr (.ro m [r] 0 0))] [] (.one (.dat (.bool (p x)))) []) : Ctr prog 242 [.one (.dat (.sl 2 (l.map encLRow))), .one (.fn fid [.ro m [r] 0 0])] [] (.one (.dat (.bool (l.any p)))) [] := by
 refine Ctr.bd aa func242 rfl ?_
 refine evl ?_
 refine ae e310 (n5 l hl he hp) rfl ?_
 refine evl ?_
 refine Fin.nt results242 [] ?_ ?_ ?_ <;> try trivial
 (refine rsl ?_; try exact .intro)
 exact a7 p l
theorem n7 (l : List LList) (hl : l.length <= maxLen) {fid : FuncId} {m : Nat} {r : List D} {p : LList -> Bool} (he : enters prog fid = true)
  (hp : ∀ x ∈ l, Ctr prog fid [.agg ((encLList x).map .dat), .one (.ptr (.ro m [r] 0 0))] [] (.one (.dat (.bool (p x)))) []) : Ctr prog 309 [.one (.dat (.sl 1 (l.map encLList))), .one (.fn fid [.ro m [r] 0 0])] [] (.one (.dat (.int .i64 (ixF p l)))) [] := by
 refine Ctr.bd aa func309 rfl ?_
 refine evl ?_
 refine ab (fun n s => ∃ i : Nat, i <= l.length /\ n = l.length - i /\ (∀ j (hj : j < l.length), j < i -> p l[j] = false) /\ s = mkSt [(8, .one (.dat (.int .i64 i))), (7, .one (.dat (.int .i64 l.length))), (1, .one (.fn fid [.ro m [r] 0 0])), (0, .one (.dat (.sl 1 (l.map encLList))))] []) l.length _
  (Ent.wk []) ⟨0, by omega, by omega, by simp, rfl⟩ ?_
 rintro n s ⟨i, hi, rfl, ht, rfl⟩ K hK
 refine evl ?_
 constructor <;> intro h
 ·have hlt : i < l.length := by simpa using h
  have hw := ah hlt hl
  refine ⟨⟨by omega, by omega⟩, hlt, ?_⟩
  have hpx := hp l[i] (List.getElem_mem hlt)
  simp only [getD_map hlt, encLList, List.map_cons, List.map_nil, List.take_succ_cons, List.take_zero, List.getD_cons_zero] at hpx ⊢
  refine ae he hpx rfl ?_
  refine sv2 ?_
  constructor <;> intro h
  ·apply hK
   refine evl ?_
   refine Fin.nt results309 [] ?_ ?_ ?_ <;> try trivial
   (refine rsl ?_; try exact .intro)
   exact (aK hlt h ht).symm
  ·apply hK
   refine ⟨l.length - (i + 1), _, by omega, Ent.wk [], i + 1, by omega, rfl, fun j hj hji => ?_, rfl⟩
   by_cases e : j = i
   ·subst e; exact h
   ·exact ht j hj (by omega)
 ·have hge : i = l.length := by simp at h; omega
  subst hge
  apply hK
  refine evl ?_
  refine Fin.nt results309 [] ?_ ?_ ?_ <;> try trivial
  (refine rsl ?_; try exact .intro)
  exact (aH fun j hj => ht j hj hj).symm
theorem n8 (l : List LList) (hl : l.length <= maxLen) {fid : FuncId} {m : Nat} {r : List D} {p : LList -> Bool} (he : enters prog fid = true)
  (hp : ∀ x ∈ l, Ctr prog fid [.agg ((encLList x).map .dat), .one (.ptr (.ro m [r] 0 0))] [] (.one (.dat (.bool (p x)))) []) : Ctr prog 240 [.one (.dat (.sl 1 (l.map encLList))), .one (.fn fid [.ro m [r] 0 0])] [] (.one (.dat (.bool (l.any p)))) [] := by
 refine Ctr.bd aa func240 rfl ?_
 refine evl ?_
 refine ae e309 (n7 l hl he hp) rfl ?_
 refine evl ?_
 refine Fin.nt results240 [] ?_ ?_ ?_ <;> try trivial
 (refine rsl ?_; try exact .intro)
 exact a7 p l
theorem n9 (l : List Bkt) (hl : l.length <= maxLen) {fid : FuncId} {p : Bkt -> Bool} (he : enters prog fid = true)
  (hp : ∀ x ∈ l, Ctr prog fid [.agg ((encBkt x).map .dat)] [] (.one (.dat (.bool (p x)))) []) : Ctr prog 245 [.one (.dat (.sl 3 (l.map encBkt))), .one (.fn fid [])] [] (.one (.dat (.int .i64 (ixF p l)))) [] := by
 refine Ctr.bd aa func245 rfl ?_
 refine evl ?_
 refine ab (fun n s => ∃ i : Nat, i <= l.length /\ n = l.length - i /\ (∀ j (hj : j < l.length), j < i -> p l[j] = false) /\ s = mkSt [(8, .one (.dat (.int .i64 i))), (7, .one (.dat (.int .i64 l.length))), (1, .one (.fn fid [])), (0, .one (.dat (.sl 3 (l.map encBkt))))] []) l.length _
  (Ent.wk []) ⟨0, by omega, by omega, by simp, rfl⟩ ?_
 rintro n s ⟨i, hi, rfl, ht, rfl⟩ K hK
 refine evl ?_
 constructor <;> intro h
 ·have hlt : i < l.length := by simpa using h
  have hw := ah hlt hl
  refine ⟨⟨by omega, by omega⟩, hlt, ?_⟩
  have hpx := hp l[i] (List.getElem_mem hlt)
  simp only [getD_map hlt, encBkt, List.map_cons, List.map_nil, List.take_succ_cons, List.take_zero, List.getD_cons_zero] at hpx ⊢
  refine ae he hpx rfl ?_
  refine sv2 ?_
  constructor <;> intro h
  ·apply hK
   refine evl ?_
   refine Fin.nt results245 [] ?_ ?_ ?_ <;> try trivial
   (refine rsl ?_; try exact .intro)
   exact (aK hlt h ht).symm
  ·apply hK
   refine ⟨l.length - (i + 1), _, by omega, Ent.wk [], i + 1, by omega, rfl, fun j hj hji => ?_, rfl⟩
   by_cases e : j = i
   ·subst e; exact h
   ·exact ht j hj (by omega)
 ·have hge : i = l.length := by simp at h; omega
  subst hge
  apply hK
  refine evl ?_
  refine Fin.nt results245 [] ?_ ?_ ?_ <;> try trivial
  (refine rsl ?_; try exact .intro)
  exact (aH fun j hj => ht j hj hj).symm
theorem oa (l : List Bkt) (hl : l.length <= maxLen) {fid : FuncId} {p : Bkt -> Bool} (he : enters prog fid = true)
  (hp : ∀ x ∈ l, Ctr prog fid [.agg ((encBkt x).map .dat)] [] (.one (.dat (.bool (p x)))) []) : Ctr prog 146 [.one (.dat (.sl 3 (l.map encBkt))), .one (.fn fid [])] [] (.one (.dat (.bool (l.any p)))) [] := by
 refine Ctr.bd aa func146 rfl ?_
 refine evl ?_
 refine ae e245 (n9 l hl he hp) rfl ?_
 refine evl ?_
 refine Fin.nt results146 [] ?_ ?_ ?_ <;> try trivial
 (refine rsl ?_; try exact .intro)
 exact a7 p l
theorem oc (l : List Cmd) (hl : l.length <= maxLen) {fid : FuncId} {p : Cmd -> Bool} (he : enters prog fid = true)
  (hp : ∀ x ∈ l, Ctr prog fid [.agg ((encCmd x).map .dat)] [] (.one (.dat (.bool (p x)))) []) : Ctr prog 271 [.one (.dat (.sl 3 (l.map encCmd))), .one (.fn fid [])] [] (.one (.dat (.int .i64 (ixF p l)))) [] := by
 refine Ctr.bd aa func271 rfl ?_
 refine evl ?_
 refine ab (fun n s => ∃ i : Nat, i <= l.length /\ n = l.length - i /\ (∀ j (hj : j < l.length), j < i -> p l[j] = false) /\ s = mkSt [(8, .one (.dat (.int .i64 i))), (7, .one (.dat (.int .i64 l.length))), (1, .one (.fn fid [])), (0, .one (.dat (.sl 3 (l.map encCmd))))] []) l.length _
  (Ent.wk []) ⟨0, by omega, by omega, by simp, rfl⟩ ?_
 rintro n s ⟨i, hi, rfl, ht, rfl⟩ K hK
 refine evl ?_
 constructor <;> intro h
 ·have hlt : i < l.length := by simpa using h
  have hw := ah hlt hl
  refine ⟨⟨by omega, by omega⟩, hlt, ?_⟩
  have hpx := hp l[i] (List.getElem_mem hlt)
  simp only [getD_map hlt, encCmd, List.map_cons, List.map_nil, List.take_succ_cons, List.take_zero, List.getD_cons_zero] at hpx ⊢
  refine ae he hpx rfl ?_
  refine sv2 ?_
  constructor <;> intro h
  ·apply hK
   refine evl ?_
   refine Fin.nt results271 [] ?_ ?_ ?_ <;> try trivial
   (refine rsl ?_; try exact .intro)
   exact (aK hlt h ht).symm
  ·apply hK
   refine ⟨l.length - (i + 1), _, by omega, Ent.wk [], i + 1, by omega, rfl, fun j hj hji => ?_, rfl⟩
   by_cases e : j = i
   ·subst e; exact h
   ·exact ht j hj (by omega)
 ·have hge : i = l.length := by simp at h; omega
  subst hge
  apply hK
  refine evl ?_
  refine Fin.nt results271 [] ?_ ?_ ?_ <;> try trivial
  (refine rsl ?_; try exact .intro)
  exact (aH fun j hj => ht j hj hj).symm
theorem od (l : List Cmd) (hl : l.length <= maxLen) {fid : FuncId} {p : Cmd -> Bool} (he : enters prog fid = true)
  (hp : ∀ x ∈ l, Ctr prog fid [.agg ((encCmd x).map .dat)] [] (.one (.dat (.bool (p x)))) []) : Ctr prog 174 [.one (.dat (.sl 3 (l.map encCmd))), .one (.fn fid [])] [] (.one (.dat (.bool (l.any p)))) [] := by
 refine Ctr.bd aa func174 rfl ?_
 refine evl ?_
 refine ae e271 (oc l hl he hp) rfl ?_
 refine evl ?_
 refine Fin.nt results174 [] ?_ ?_ ?_ <;> try trivial
 (refine rsl ?_; try exact .intro)
 exact a7 p l
theorem oe (l : List Seen) (hl : l.length <= maxLen) {fid : FuncId} {p : Seen -> Bool} (he : enters prog fid = true)
  (hp : ∀ x ∈ l, Ctr prog fid [.agg ((encSeen x).map .dat)] [] (.one (.dat (.bool (p x)))) []) : Ctr prog 318 [.one (.dat (.sl 2 (l.map encSeen))), .one (.fn fid [])] [] (.one (.dat (.int .i64 (ixF p l)))) [] := by
 refine Ctr.bd aa func318 rfl ?_
 refine evl ?_
 refine ab (fun n s => ∃ i : Nat, i <= l.length /\ n = l.length - i /\ (∀ j (hj : j < l.length), j < i -> p l[j] = false) /\ s = mkSt [(8, .one (.dat (.int .i64 i))), (7, .one (.dat (.int .i64 l.length))), (1, .one (.fn fid [])), (0, .one (.dat (.sl 2 (l.map encSeen))))] []) l.length _
  (Ent.wk []) ⟨0, by omega, by omega, by simp, rfl⟩ ?_
 rintro n s ⟨i, hi, rfl, ht, rfl⟩ K hK
 refine evl ?_
 constructor <;> intro h
 ·have hlt : i < l.length := by simpa using h
  have hw := ah hlt hl
  refine ⟨⟨by omega, by omega⟩, hlt, ?_⟩
  have hpx := hp l[i] (List.getElem_mem hlt)
  simp only [getD_map hlt, encSeen, List.map_cons, List.map_nil, List.take_succ_cons, List.take_zero, List.getD_cons_zero] at hpx ⊢
  refine ae he hpx rfl ?_
  refine sv2 ?_
  constructor <;> intro h
  ·apply hK
   refine evl ?_
   refine Fin.nt results318 [] ?_ ?_ ?_ <;> try trivial
   (refine rsl ?_; try exact .intro)
   exact (aK hlt h ht).symm
  ·apply hK
   refine ⟨l.length - (i + 1), _, by omega, Ent.wk [], i + 1, by omega, rfl, fun j hj hji => ?_, rfl⟩
   by_cases e : j = i
   ·subst e; exact h
   ·exact ht j hj (by omega)
 ·have hge : i = l.length := by simp at h; omega
  subst hge
  apply hK
  refine evl ?_
  refine Fin.nt results318 [] ?_ ?_ ?_ <;> try trivial
  (refine rsl ?_; try exact .intro)
  exact (aH fun j hj => ht j hj hj).symm
theorem og (l : List Seen) (hl : l.length <= maxLen) {fid : FuncId} {p : Seen -> Bool} (he : enters prog fid = true)
  (hp : ∀ x ∈ l, Ctr prog fid [.agg ((encSeen x).map .dat)] [] (.one (.dat (.bool (p x)))) []) : Ctr prog 250 [.one (.dat (.sl 2 (l.map encSeen))), .one (.fn fid [])] [] (.one (.dat (.bool (l.any p)))) [] := by
 refine Ctr.bd aa func250 rfl ?_
 refine evl ?_
 refine ae e318 (oe l hl he hp) rfl ?_
 refine evl ?_
 refine Fin.nt results250 [] ?_ ?_ ?_ <;> try trivial
 (refine rsl ?_; try exact .intro)
 exact a7 p l
theorem oh (l : List Batch) (hl : l.length <= maxLen) {fid : FuncId} {p : Batch -> Bool} (he : enters prog fid = true)
  (hp : ∀ x ∈ l, Ctr prog fid [.agg ((encBatch x).map .dat)] [] (.one (.dat (.bool (p x)))) []) : Ctr prog 173 [.one (.dat (.sl 2 (l.map encBatch))), .one (.fn fid [])] [] (.one (.dat (.int .i64 (ixF p l)))) [] := by
 refine Ctr.bd aa func173 rfl ?_
 refine evl ?_
 refine ab (fun n s => ∃ i : Nat, i <= l.length /\ n = l.length - i /\ (∀ j (hj : j < l.length), j < i -> p l[j] = false) /\ s = mkSt [(8, .one (.dat (.int .i64 i))), (7, .one (.dat (.int .i64 l.length))), (1, .one (.fn fid [])), (0, .one (.dat (.sl 2 (l.map encBatch))))] []) l.length _
  (Ent.wk []) ⟨0, by omega, by omega, by simp, rfl⟩ ?_
 rintro n s ⟨i, hi, rfl, ht, rfl⟩ K hK
 refine evl ?_
 constructor <;> intro h
 ·have hlt : i < l.length := by simpa using h
  have hw := ah hlt hl
  refine ⟨⟨by omega, by omega⟩, hlt, ?_⟩
  have hpx := hp l[i] (List.getElem_mem hlt)
  simp only [getD_map hlt, encBatch, List.map_cons, List.map_nil, List.take_succ_cons, List.take_zero, List.getD_cons_zero] at hpx ⊢
  refine ae he hpx rfl ?_
  refine sv2 ?_
  constructor <;> intro h
  ·apply hK
   refine evl ?_
   refine Fin.nt results173 [] ?_ ?_ ?_ <;> try trivial
   (refine rsl ?_; try exact .intro)
   exact (aK hlt h ht).symm
  ·apply hK
   refine ⟨l.length - (i + 1), _, by omega, Ent.wk [], i + 1, by omega, rfl, fun j hj hji => ?_, rfl⟩
   by_cases e : j = i
   ·subst e; exact h
   ·exact ht j hj (by omega)
 ·have hge : i = l.length := by simp at h; omega
  subst hge
  apply hK
  refine evl ?_
  refine Fin.nt results173 [] ?_ ?_ ?_ <;> try trivial
  (refine rsl ?_; try exact .intro)
  exact (aH fun j hj => ht j hj hj).symm
theorem oQ (l : List Batch) (hl : l.length <= maxLen) {fid : FuncId} {p : Batch -> Bool} (he : enters prog fid = true)
  (hp : ∀ x ∈ l, Ctr prog fid [.agg ((encBatch x).map .dat)] [] (.one (.dat (.bool (p x)))) []) : Ctr prog 83 [.one (.dat (.sl 2 (l.map encBatch))), .one (.fn fid [])] [] (.one (.dat (.bool (l.any p)))) [] := by
 refine Ctr.bd aa func83 rfl ?_
 refine evl ?_
 refine ae e173 (oh l hl he hp) rfl ?_
 refine evl ?_
 refine Fin.nt results83 [] ?_ ?_ ?_ <;> try trivial
 (refine rsl ?_; try exact .intro)
 exact a7 p l
theorem oi (l : List TQueue) (hl : l.length <= maxLen) {fid : FuncId} {p : TQueue -> Bool} (he : enters prog fid = true)
  (hp : ∀ x ∈ l, Ctr prog fid [.agg ((encTQueue x).map .dat)] [] (.one (.dat (.bool (p x)))) []) : Ctr prog 172 [.one (.dat (.sl 1 (l.map encTQueue))), .one (.fn fid [])] [] (.one (.dat (.int .i64 (ixF p l)))) [] := by
 refine Ctr.bd aa func172 rfl ?_
 refine evl ?_
 refine ab (fun n s => ∃ i : Nat, i <= l.length /\ n = l.length - i /\ (∀ j (hj : j < l.length), j < i -> p l[j] = false) /\ s = mkSt [(8, .one (.dat (.int .i64 i))), (7, .one (.dat (.int .i64 l.length))), (1, .one (.fn fid [])), (0, .one (.dat (.sl 1 (l.map encTQueue))))] []) l.length _
  (Ent.wk []) ⟨0, by omega, by omega, by simp, rfl⟩ ?_
 rintro n s ⟨i, hi, rfl, ht, rfl⟩ K hK
 refine evl ?_
 constructor <;> intro h
 ·have hlt : i < l.length := by simpa using h
  have hw := ah hlt hl
  refine ⟨⟨by omega, by omega⟩, hlt, ?_⟩
  have hpx := hp l[i] (List.getElem_mem hlt)
  simp only [getD_map hlt, encTQueue, List.map_cons, List.map_nil, List.take_succ_cons, List.take_zero, List.getD_cons_zero] at hpx ⊢
  refine ae he hpx rfl ?_
  refine sv2 ?_
  constructor <;> intro h
  ·apply hK
   refine evl ?_
   refine Fin.nt results172 [] ?_ ?_ ?_ <;> try trivial
   (refine rsl ?_; try exact .intro)
   exact (aK hlt h ht).symm
  ·apply hK
   refine ⟨l.length - (i + 1), _, by omega, Ent.wk [], i + 1, by omega, rfl, fun j hj hji => ?_, rfl⟩
   by_cases e : j = i
   ·subst e; exact h
   ·exact ht j hj (by omega)
 ·have hge : i = l.length := by simp at h; omega
  subst hge
  apply hK
  refine evl ?_
  refine Fin.nt results172 [] ?_ ?_ ?_ <;> try trivial
  (refine rsl ?_; try exact .intro)
  exact (aH fun j hj => ht j hj hj).symm
theorem mh (l : List TQueue) (hl : l.length <= maxLen) {fid : FuncId} {p : TQueue -> Bool} (he : enters prog fid = true)
  (hp : ∀ x ∈ l, Ctr prog fid [.agg ((encTQueue x).map .dat)] [] (.one (.dat (.bool (p x)))) []) : Ctr prog 81 [.one (.dat (.sl 1 (l.map encTQueue))), .one (.fn fid [])] [] (.one (.dat (.bool (l.any p)))) [] := by
 refine Ctr.bd aa func81 rfl ?_
 refine evl ?_
 refine ae e172 (oi l hl he hp) rfl ?_
 refine evl ?_
 refine Fin.nt results81 [] ?_ ?_ ?_ <;> try trivial
 (refine rsl ?_; try exact .intro)
 exact a7 p l
theorem oj (l : List TJob) (hl : l.length <= maxLen) {fid : FuncId} {p : TJob -> Bool} (he : enters prog fid = true)
  (hp : ∀ x ∈ l, Ctr prog fid [.agg ((encTJob x).map .dat)] [] (.one (.dat (.bool (p x)))) []) : Ctr prog 235 [.one (.dat (.sl 32 (l.map encTJob))), .one (.fn fid [])] [] (.one (.dat (.int .i64 (ixF p l)))) [] := by
 refine Ctr.bd aa func235 rfl ?_
 refine evl ?_
 refine ab (fun n s => ∃ i : Nat, i <= l.length /\ n = l.length - i /\ (∀ j (hj : j < l.length), j < i -> p l[j] = false) /\ s = mkSt [(8, .one (.dat (.int .i64 i))), (7, .one (.dat (.int .i64 l.length))), (1, .one (.fn fid [])), (0, .one (.dat (.sl 32 (l.map encTJob))))] []) l.length _
  (Ent.wk []) ⟨0, by omega, by omega, by simp, rfl⟩ ?_
 rintro n s ⟨i, hi, rfl, ht, rfl⟩ K hK
 refine evl ?_
 constructor <;> intro h
 ·have hlt : i < l.length := by simpa using h
  have hw := ah hlt hl
  refine ⟨⟨by omega, by omega⟩, hlt, ?_⟩
  have hpx := hp l[i] (List.getElem_mem hlt)
  simp only [getD_map hlt, encTJob, List.map_cons, List.map_nil, List.take_succ_cons, List.take_zero, List.getD_cons_zero] at hpx ⊢
  refine ae he hpx rfl ?_
  refine sv2 ?_
  constructor <;> intro h
  ·apply hK
   refine evl ?_
   refine Fin.nt results235 [] ?_ ?_ ?_ <;> try trivial
   (refine rsl ?_; try exact .intro)
   exact (aK hlt h ht).symm
  ·apply hK
   refine ⟨l.length - (i + 1), _, by omega, Ent.wk [], i + 1, by omega, rfl, fun j hj hji => ?_, rfl⟩
   by_cases e : j = i
   ·subst e; exact h
   ·exact ht j hj (by omega)
 ·have hge : i = l.length := by simp at h; omega
  subst hge
  apply hK
  refine evl ?_
  refine Fin.nt results235 [] ?_ ?_ ?_ <;> try trivial
  (refine rsl ?_; try exact .intro)
  exact (aH fun j hj => ht j hj hj).symm
theorem kj (l : List TJob) (hl : l.length <= maxLen) {fid : FuncId} {p : TJob -> Bool} (he : enters prog fid = true)
  (hp : ∀ x ∈ l, Ctr prog fid [.agg ((encTJob x).map .dat)] [] (.one (.dat (.bool (p x)))) []) : Ctr prog 142 [.one (.dat (.sl 32 (l.map encTJob))), .one (.fn fid [])] [] (.one (.dat (.bool (l.any p)))) [] := by
 refine Ctr.bd aa func142 rfl ?_
 refine evl ?_
 refine ae e235 (oj l hl he hp) rfl ?_
 refine evl ?_
 refine Fin.nt results142 [] ?_ ?_ ?_ <;> try trivial
 (refine rsl ?_; try exact .intro)
 exact a7 p l
theorem ol (l : List TEv) (hl : l.length <= maxLen) {fid : FuncId} {m m2 : Nat} {r r2 : List D} {p : TEv -> Bool} (he : enters prog fid = true)
  (hp : ∀ x ∈ l, Ctr prog fid [.agg ((encTEv x).map .dat), .one (.ptr (.ro m [r] 0 0)), .one (.ptr (.ro m2 [r2] 0 0))] [] (.one (.dat (.bool (p x)))) []) : Ctr prog 297 [.one (.dat (.sl 6 (l.map encTEv))), .one (.fn fid [.ro m [r] 0 0, .ro m2 [r2] 0 0])] [] (.one (.dat (.int .i64 (ixF p l)))) [] := by
 refine Ctr.bd aa func297 rfl ?_
 refine evl ?_
 refine ab (fun n s => ∃ i : Nat, i <= l.length /\ n = l.length - i /\ (∀ j (hj : j < l.length), j < i -> p l[j] = false) /\ s = mkSt [(8, .one (.dat (.int .i64 i))), (7, .one (.dat (.int .i64 l.length))), (1, .one (.fn fid [.ro m [r] 0 0, .ro m2 [r2] 0 0])), (0, .one (.dat (.sl 6 (l.map encTEv))))] []) l.length _
  (Ent.wk []) ⟨0, by omega, by omega, by simp, rfl⟩ ?_
 rintro n s ⟨i, hi, rfl, ht, rfl⟩ K hK
 refine evl ?_
 constructor <;> intro h
 ·have hlt : i < l.length := by simpa using h
  have hw := ah hlt hl
  refine ⟨⟨by omega, by omega⟩, hlt, ?_⟩
  have hpx := hp l[i] (List.getElem_mem hlt)
  simp only [getD_map hlt, encTEv, List.map_cons, List.map_nil, List.take_succ_cons, List.take_zero, List.getD_cons_zero] at hpx ⊢
  refine ae he hpx rfl ?_
  refine sv2 ?_
  constructor <;> intro h
  ·apply hK
   refine evl ?_
   refine Fin.nt results297 [] ?_ ?_ ?_ <;> try trivial
   (refine rsl ?_; try exact .intro)
   exact (aK hlt h ht).symm
  ·apply hK
   refine ⟨l.length - (i + 1), _, by omega, Ent.wk [], i + 1, by omega, rfl, fun j hj hji => ?_, rfl⟩
   by_cases e : j = i
   ·subst e; exact h
   ·exact ht j hj (by omega)
 ·have hge : i = l.length := by simp at h; omega
  subst hge
  apply hK
  refine evl ?_
  refine Fin.nt results297 [] ?_ ?_ ?_ <;> try trivial
  (refine rsl ?_; try exact .intro)
  exact (aH fun j hj => ht j hj hj).symm
end Go.Proofs.YtkmmgklnoagedaaGreat.Mod
