/- Contracts: Sl. -/
import Derived.Test.YtppbonemkipgeaaRows
import Derived.Test.YtppbonemkipgeaaDTy
import Derived.Test.YtppbonemkipgeaaAbsTac
import Derived.Test.YtppbonemkipgeaaAbsData
import Derived.Test.YtppbonemkipgeaaDFam
import Derived.WalkKit
import Derived.ProofKit
import Derived.OpenShut
namespace Go.Proofs.Ytppbonemkipgeaa.Mod
open Go.Proofs.Try Go.Abs Go.Proofs.Ytppbonemkipgeaa.Ty Go.ChangeShapes Go.WideShapes Go.ChangeAt Go.RowKit
set_option linter.unusedSimpArgs false
set_option linter.unusedVariables false
set_option maxHeartbeats 8000000
set_option maxRecDepth 100000
def ixF {α : Type} (p : α -> Bool) (l : List α) : Int := match l.findIdx? p with
 | some i => i
 | none => -1
theorem ixF_none {α : Type} {p : α -> Bool} {l : List α} (h : ∀ j (hj : j < l.length), p l[j] = false) : ixF p l = -1 := by
 unfold ixF
 have : l.findIdx? p = none := by
  rw [List.findIdx?_eq_none_iff]
  intro x hx
  obtain ⟨j, hj, rfl⟩ := List.getElem_of_mem hx
  exact h j hj
 rw [this]
theorem ixF_some {α : Type} {p : α -> Bool} {l : List α} {i : Nat} (hi : i < l.length) (hp : p l[i] = true) (h : ∀ j (hj : j < l.length), j < i -> p l[j] = false) : ixF p l = i := by
 unfold ixF
 have : l.findIdx? p = some i := by
  rw [List.findIdx?_eq_some_iff_getElem]
  refine ⟨hi, hp, fun j hj => ?_⟩
  have := h j (by omega) hj
  simp [this]
 rw [this]
theorem ixF_cases {α : Type} (p : α -> Bool) (l : List α) : (ixF p l = -1 /\ ∀ j (hj : j < l.length), p l[j] = false) \/ ∃ i, ∃ hi : i < l.length, ixF p l = i /\ p l[i] = true /\ ∀ j (hj : j < l.length), j < i -> p l[j] = false := by
 unfold ixF
 cases e : l.findIdx? p with
 | none =>
  rw [List.findIdx?_eq_none_iff] at e
  exact .inl ⟨rfl, fun j hj => e _ (List.getElem_mem hj)⟩
 | some i =>
  rw [List.findIdx?_eq_some_iff_getElem] at e
  obtain ⟨hi, hp, h⟩ := e
  exact .inr ⟨i, hi, rfl, hp, fun j hj hji => by have := h j hji; simpa using this⟩
def firstF {α : Type} (p : α -> Bool) (z : α) (l : List α) : α × Bool := match l.find? p with
 | some x => (x, true)
 | none => (z, false)
theorem firstF_none {α : Type} {p : α -> Bool} {z : α} {l : List α} (h : ∀ j (hj : j < l.length), p l[j] = false) : firstF p z l = (z, false) := by
 unfold firstF
 have : l.find? p = none := by
  rw [List.find?_eq_none]
  intro x hx
  obtain ⟨j, hj, rfl⟩ := List.getElem_of_mem hx
  simp [h j hj]
 rw [this]
theorem firstF_some {α : Type} {p : α -> Bool} {z : α} {l : List α} {i : Nat} (hi : i < l.length) (hp : p l[i] = true) (h : ∀ j (hj : j < l.length), j < i -> p l[j] = false) : firstF p z l = (l[i], true) := by
 unfold firstF
 have : l.find? p = some l[i] := by
  rw [List.find?_eq_some_iff_getElem]
  refine ⟨hp, i, hi, rfl, fun j hj => ?_⟩
  simp [h j (by omega) hj]
 rw [this]
theorem filt0 {α : Type} {p : α -> Bool} {l : List α} {i : Nat} (hi : i < l.length) (hp : p l[i] = true) (h : ∀ j (hj : j < l.length), j < i -> p l[j] = false) : l.take i = (l.take (i + 1)).filter fun x => !p x := by
 rw [List.take_succ_eq_append_getElem hi, List.filter_append, List.filter_cons, hp]
 simp only [Bool.not_true, Bool.false_eq_true, if_false, List.filter_nil, List.append_nil]
 rw [List.filter_eq_self.2]
 intro x hx
 obtain ⟨j, hj, rfl⟩ := List.getElem_of_mem hx
 rw [List.length_take] at hj
 rw [List.getElem_take]
 simp [h j (by omega) (by omega)]
theorem filt_all {α : Type} {p : α -> Bool} {l : List α} (h : ∀ j (hj : j < l.length), p l[j] = false) : l.filter (fun x => !p x) = l := by
 rw [List.filter_eq_self]
 intro x hx
 obtain ⟨j, hj, rfl⟩ := List.getElem_of_mem hx
 simp [h j hj]
theorem drop_get {α : Type} {R l : List α} {j : Nat} (h : R.drop j = l.drop j) (h1 : j < R.length) (h2 : j < l.length) : R[j] = l[j] /\ R.drop (j + 1) = l.drop (j + 1) := by
 rw [List.drop_eq_getElem_cons h1, List.drop_eq_getElem_cons h2] at h
 exact ⟨(List.cons.inj h).1, (List.cons.inj h).2⟩
theorem filt_skip {α : Type} {p : α -> Bool} {R l : List α} {i j : Nat} (ht : R.take i = (l.take j).filter fun x => !p x) (hj : j < l.length) (hp : p l[j] = true) : R.take i = (l.take (j + 1)).filter fun x => !p x := by
 rw [List.take_succ_eq_append_getElem hj, List.filter_append, List.filter_cons, hp, ht]
 simp
theorem filt_keep {α : Type} {p : α -> Bool} {R l : List α} {i j : Nat} (ht : R.take i = (l.take j).filter fun x => !p x) (hi : i < R.length) (hj : j < l.length) (hp : p l[j] = false) : (R.set i l[j]).take (i + 1) = (l.take (j + 1)).filter fun x => !p x := by
 rw [List.take_succ_eq_append_getElem hj, List.filter_append, List.filter_cons, hp, <- ht, List.take_succ_eq_append_getElem (by simpa using hi), List.take_set_of_le (Nat.le_refl _)]
 simp
theorem lay_take {α : Type} {l us : List α} {i : Nat} (h : i <= l.length) : (lay l i us).take i = l.take i := by
 unfold lay splice
 rw [List.append_assoc, List.take_append_of_le_length (by simp; omega), List.take_take, Nat.min_self]
theorem lay_eq {α : Type} {A M B us : List α} {i : Nat} (hA : A.length = i) (hM : M.length = us.length) : lay (A ++ (M ++ B)) i us = A ++ (us ++ B) := by
 subst hA
 unfold lay splice
 rw [List.take_left, <- hM, <- List.drop_drop, List.drop_left, List.drop_left, List.append_assoc]
theorem ins_rows {α : Type} {L : List α} {X Z : α} {i n : Nat} (hn : L.length = n) (hi : i < n) :
  lay (lay (L.take i ++ List.replicate (n + 1 - i) Z) i [X]) (i + 1) (((L.drop i).take (n - i)).take (n + 1 - (i + 1))) = L.take i ++ X :: L.drop i := by
 have h1 : (L.take i).length = i := by rw [List.length_take]; omega
 have h2 : ((L.drop i).take (n - i)).take (n + 1 - (i + 1)) = L.drop i := by
  rw [List.take_of_length_le (by rw [List.length_take, List.length_drop]; omega), List.take_of_length_le (by rw [List.length_drop]; omega)]
 rw [h2, show n + 1 - i = (n - i) + 1 from by omega, List.replicate_succ]
 have h3 : lay (L.take i ++ Z :: List.replicate (n - i) Z) i [X] = L.take i ++ ([X] ++ List.replicate (n - i) Z) := lay_eq (M := [Z]) h1 rfl
 have h4 : (L.take i ++ [X]).length = i + 1 := by rw [List.length_append, h1]; rfl
 have h5 := lay_eq (A := L.take i ++ [X]) (M := List.replicate (n - i) Z) (B := []) (us := L.drop i) h4 (by rw [List.length_replicate, List.length_drop]; omega)
 rw [h3]
 simpa using h5
theorem ins_wide {α : Type} {L sp : List α} {X : α} {i n : Nat} (hn : L.length = n) (hi : i < n) (hs : 0 < sp.length) :
  (lay (lay (L ++ sp) (i + 1) ((((L ++ sp).drop i).take (n + 1 - i)).take (n + 1 - (i + 1)))) i [X]).take (n + 1) = L.take i ++ X :: L.drop i := by
 have h1 : (L.take i).length = i := by rw [List.length_take]; omega
 have h2 : (((L ++ sp).drop i).take (n + 1 - i)).take (n + 1 - (i + 1)) = L.drop i := by
  rw [List.take_take, Nat.min_eq_left (by omega), List.drop_append_of_le_length (by omega), List.take_append_of_le_length (by rw [List.length_drop]; omega), List.take_of_length_le (by rw [List.length_drop]; omega)]
 rw [h2]
 have h5 : ((L ++ sp).take (i + 1)).length = i + 1 := by rw [List.length_take, List.length_append]; omega
 have h6 : L ++ sp = (L ++ sp).take (i + 1) ++ ((((L ++ sp).drop (i + 1)).take (n - i)) ++ ((L ++ sp).drop (i + 1)).drop (n - i)) := by rw [List.take_append_drop, List.take_append_drop]
 have h7 : lay (L ++ sp) (i + 1) (L.drop i) = (L ++ sp).take (i + 1) ++ (L.drop i ++ ((L ++ sp).drop (i + 1)).drop (n - i)) := by
  conv => lhs; arg 1; rw [h6]
  exact lay_eq h5 (by rw [List.length_take, List.length_drop, List.length_append, List.length_drop]; omega)
 have h8 : (L ++ sp).take (i + 1) = L.take i ++ [L[i]'(by omega)] := by rw [List.take_append_of_le_length (by omega), List.take_succ_eq_append_getElem (by omega)]
 rw [h7, h8, List.append_assoc, lay_eq (M := [L[i]'(by omega)]) (us := [X]) h1 rfl]
 have h9 : (L.take i ++ ([X] ++ L.drop i)).length = n + 1 := by rw [List.length_append, h1, List.length_append, List.length_drop]; simp; omega
 rw [<- List.append_assoc [X], <- List.append_assoc, List.take_left' h9]
 rfl
theorem flat_lay {l us : List (List D)} {i : Nat} (h1 : flatRows l) (h2 : flatRows us) : flatRows (lay l i us) := fun r hr => (splice_mem hr).elim (h1 r) (h2 r)
theorem c48 (l : List KV) (hl : l.length <= maxLen) {fid : FuncId} {m : Nat} {r : List D} {p : KV -> Bool} (he : enters prog fid = true)
  (hp : ∀ x : KV, Ctr prog fid [.agg ((encKV x).map .dat), .one (.ptr (.ro m [r] 0 0))] [] (.one (.dat (.bool (p x)))) []) :
  Ctr prog 48 [.one (.dat (.sl 2 (l.map encKV))), .one (.fn fid [.ro m [r] 0 0])] [] (.one (.dat (.int .i64 (ixF p l)))) [] := by
 refine Ctr.bd mixed func48 rfl ?_
 refine evl ?_
 refine LoopK_intro (fun n s => ∃ i : Nat, i <= l.length /\ n = l.length - i /\ (∀ j (hj : j < l.length), j < i -> p l[j] = false) /\ s = mkSt [(8, .one (.dat (.int .i64 i))), (7, .one (.dat (.int .i64 l.length))), (1, .one (.fn fid [.ro m [r] 0 0])), (0, .one (.dat (.sl 2 (l.map encKV))))] []) l.length _
  (Ent.wk []) ⟨0, by omega, by omega, by simp, rfl⟩ ?_
 rintro n s ⟨i, hi, rfl, ht, rfl⟩ K hK
 refine evl ?_
 constructor <;> intro h
 ·have hlt : i < l.length := by simpa using h
  have hw := wrap_succ hlt hl
  refine ⟨⟨by omega, by omega⟩, hlt, ?_⟩
  have hpx := hp l[i]
  simp only [getD_map hlt, encKV, List.map_cons, List.map_nil, List.take_succ_cons, List.take_zero] at hpx ⊢
  refine CallK_pure he hpx rfl ?_
  refine sv0 ?_
  constructor <;> intro h
  ·apply hK
   refine evl ?_
   refine Fin.nt results48 [] ?_ ?_ ?_ <;> try trivial
   (refine rsl ?_; try exact .intro)
   exact (ixF_some hlt h ht).symm
  ·apply hK
   refine ⟨l.length - (i + 1), _, by omega, Ent.wk [], i + 1, by omega, rfl, fun j hj hji => ?_, rfl⟩
   by_cases e : j = i
   ·subst e; exact h
   ·exact ht j hj (by omega)
 ·have hge : i = l.length := by simp at h; omega
  subst hge
  apply hK
  refine evl ?_
  refine Fin.nt results48 [] ?_ ?_ ?_ <;> try trivial
  (refine rsl ?_; try exact .intro)
  exact (ixF_none fun j hj => ht j hj hj).symm
theorem c52 (l : List KV) (hl : l.length <= 16777216) : Ctr prog 52 [.one (.dat (.sl 2 (l.map encKV)))] [] (.one (.own 0)) [.vec 2 true (l.map encKV)] := by
 refine Ctr.bd mixed func52 rfl ?_
 refine evl ?_
 intro b hb
 constructor <;> intro h
 ·have : l = [] := by simpa using hb h
  subst this
  refine Fin.ent (Ent.emp (t := 2) (sz := 2) rfl) ?_
  refine evl ?_
  refine Fin.nt results52 [0] ?_ ?_ ?_ <;> try trivial
  all_goals exact entd
 ·refine ⟨by simp, ⟨by simp [encKV, D.flat], by simp, by omega, by omega⟩, ?_⟩
  refine Fin.nt results52 [1] ?_ ?_ ?_ <;> try trivial
  all_goals exact entd
theorem c51 (l : List KV) (hl : l.length <= 16777216) {fid : FuncId} {m : Nat} {r : List D} {p : KV -> Bool} (he : enters prog fid = true)
  (hp : ∀ x : KV, Ctr prog fid [.agg ((encKV x).map .dat), .one (.ptr (.ro m [r] 0 0))] [] (.one (.dat (.bool (p x)))) []) :
  Ctr prog 51 [.one (.own 0), .one (.fn fid [.ro m [r] 0 0])] [.vec 2 true (l.map encKV)] (.one (.own 1)) [.dead, .vec 2 true ((l.filter fun x => !p x).map encKV)] := by
 have hl' : l.length <= maxLen := Nat.le_trans hl (by decide)
 have hfl : ∀ R : List KV, flatRows (R.map encKV) := fun R => by simp [flatRows, encKV, D.flat]
 refine Ctr.of_body mixed func51 rfl (by kernel_rfl) (Nat.le_of_ble_eq_true rfl) (by simp [AV.Clean, AV.Clean1, Leaf.Clean]) (by simp [AObj.Sep]) (by simp) ?_ (by simp [AV.Low, AV.Low1, Leaf.Low]) ?_
 ·intro o ho
  have : o = 0 := by simpa using ho
  subst this
  simp [Objs, Compat]
 show wpA _ _ _ (FinQ _ _ _ _ _) _
 refine evl ?_
 refine CallK_pure e48 (c48 l hl' he hp) rfl ?_
 rcases ixF_cases p l with ⟨e, hno⟩ | ⟨i0, hi0, e, hpi, hno⟩
 ·rw [e, filt_all hno]
  refine evl ?_
  refine Fin.ent (Ent.move (t := 4) (o := 0) (sz := 2) (sep := true) (rows := l.map encKV) rfl rfl (hfl l)) ?_
  refine evl ?_
  refine Fin.nt results51 [0, 1] ?_ ?_ ?_ <;> try trivial
  all_goals exact entd
 ·rw [e]
  have hne : ((i0 : Int) == -1) = false := by first | (simp; done) | (simp; omega)
  have hw0 := wrap_succ hi0 hl'
  simp (maxSteps := 2000000) only [go_sem, seval, hne, hw0]
  refine LoopK_intro (fun n s => ∃ (i j : Nat) (R : List KV), j <= l.length /\ i < j /\ n = l.length - j /\ R.length = l.length /\ R.drop j = l.drop j /\ R.take i = (l.take j).filter (fun x => !p x) /\
    s = mkSt [(6, .one (.dat (.int .i64 j))), (5, .one (.dat (.int .i64 i))), (1, .one (.fn fid [.ro m [r] 0 0])), (0, .one (.own 0))] [.vec 2 true (R.map encKV)]) (l.length - (i0 + 1)) _
   (Ent.wk [0]) ⟨i0, i0 + 1, l, by omega, by omega, rfl, rfl, rfl, filt0 hi0 hpi hno, rfl⟩ ?_
  rintro n s ⟨i, j, R, hj, hij, rfl, hR, hd, ht, rfl⟩ K hK
  rcases Nat.lt_or_ge j l.length with hlt | hge
  ·have hltR : j < R.length := by omega
   have hltI : i < R.length := by omega
   obtain ⟨hg, hd'⟩ := drop_get hd hltR hlt
   have hdj : decide ((j : Int) < l.length) = true := by simpa using hlt
   have hw1 := wrap_succ hlt hl'
   have hw2 := wrap_succ (show i < l.length by omega) hl'
   have hpx := hp l[j]
   simp only [encKV, List.map_cons, List.map_nil] at hpx
   simp (maxSteps := 2000000) only [go_sem, seval, hR, hdj, getD_map hltR, hg, encKV]
   refine ⟨⟨by omega, by omega⟩, ⟨hlt, by simp [D.flat]⟩, ?_⟩
   refine CallK_pure he hpx rfl ?_
   simp (maxSteps := 2000000) only [go_sem, seval, hR, encKV, hw1, hw2]
   constructor <;> intro h
   ·refine ⟨⟨by omega, by omega⟩, ⟨by simp [D.flat], by omega⟩, ?_⟩
    apply hK
    refine ⟨l.length - (j + 1), _, by omega, Ent.weak (ids := [0]) (by simp) rfl (by simp) (by rw [List.map_set]; simp [objsLe, envLe, find, St.obj, AObj.renF, AV.renF, AV.renF1, Leaf.renF, LowAll, AV.Low, AV.Low1, Leaf.Low, AObj.Low, Ptr.renF, Ptr.Low]; try rfl) (by simp [objsLe, envLe, find, St.obj, AObj.renF, AV.renF, AV.renF1, Leaf.renF, LowAll, AV.Low, AV.Low1, Leaf.Low, AObj.Low, Ptr.renF, Ptr.Low]) (by simp [objsLe, envLe, find, St.obj, AObj.renF, AV.renF, AV.renF1, Leaf.renF, LowAll, AV.Low, AV.Low1, Leaf.Low, AObj.Low, Ptr.renF, Ptr.Low]), i + 1, j + 1, R.set i l[j], by omega, by omega, rfl, by simp [hR], ?_, filt_keep ht hltI hlt (by simpa using h), rfl⟩
    rw [List.drop_set_of_lt (by omega), hd']
   ·apply hK
    exact ⟨l.length - (j + 1), _, by omega, Ent.wk [0], i, j + 1, R, by omega, by omega, rfl, hR, hd', filt_skip ht hlt (by simpa using h), rfl⟩
  ·have hje : j = l.length := by omega
   subst hje
   have hdj : decide ((l.length : Int) < l.length) = false := by simp
   simp (maxSteps := 2000000) only [go_sem, seval, hR, hdj]
   apply hK
   simp (maxSteps := 2000000) only [go_sem, seval, hR]
   have hll : (lay (R.map encKV) i (List.replicate (l.length - i) [.int .i64 0, .int .i64 0])).length = l.length := by rw [lay_length (by simp; omega)]; simp [hR]
   have hfin : (lay (R.map encKV) i (List.replicate (l.length - i) [.int .i64 0, .int .i64 0])).take i = (l.filter fun x => !p x).map encKV := by
    rw [lay_take (by simp; omega), <- List.map_take, ht, List.take_length]
   refine ⟨⟨by omega, by omega, by omega⟩, hfl R, ⟨by omega, by rw [hll]; omega⟩, ?_⟩
   refine Fin.ent (Ent.part (t := 4) (o := 0) (sz := 2) (sep := true) (n := i) (rows := lay (R.map encKV) i (List.replicate (l.length - i) [.int .i64 0, .int .i64 0])) rfl rfl (flat_lay (hfl R) (by simp [flatRows, D.flat])) (by rw [hll]; omega)) ?_
   rw [hfin]
   refine evl ?_
   refine Fin.nt results51 [0, 1] ?_ ?_ ?_ <;> try trivial
   all_goals exact entd
theorem c50 (l : List KV) (i : Nat) (hi : i <= l.length) (x : KV) (hl : l.length <= 16777216) :
  Ctr prog 50 [.one (.own 0), .one (.dat (.int .i64 i)), .one (.own 1)] [.vec 2 true (l.map encKV), .vec 2 true [encKV x]] (.one (.own 2)) [.dead, .vec 2 true [encKV x], .vec 2 true ((l.take i ++ x :: l.drop i).map encKV)] := by
 have hl' : l.length <= maxLen := Nat.le_trans hl (by decide)
 have hfl : ∀ R : List KV, flatRows (R.map encKV) := fun R => by simp [flatRows, encKV, D.flat]
 have hfx : flatRows [encKV x] := hfl [x]
 refine Ctr.of_body mixed func50 rfl (by kernel_rfl) (Nat.le_of_ble_eq_true rfl) (by simp [AV.Clean, AV.Clean1, Leaf.Clean]) (by simp [AObj.Sep]) (by simp) ?_ (by simp [AV.Low, AV.Low1, Leaf.Low]) ?_
 ·intro o ho
  have : o = 0 \/ o = 1 := by simp at ho; omega
  rcases this with rfl | rfl <;> simp [Objs, Compat]
 show wpA _ _ _ (FinQ _ _ _ _ _) _
 have h10 : (((1 : Nat) : Int) == 0) = false := rfl
 rcases Nat.lt_or_ge i l.length with hlt | hge
 ·have hE : ((i : Int) == l.length) = false := by first | (simp; done) | (simp; omega)
  have hw : IntKind.i64.wrap ((l.length : Int) + 1) = ((l.length + 1 : Nat) : Int) := by rw [IntKind.wrap_i64]; omega
  generalize hX : encKV x = X at *
  have hw2 : IntKind.i64.wrap (((l.length + 1 : Nat) : Int) - (i : Int)) = ((l.length + 1 - i : Nat) : Int) := by rw [IntKind.wrap_i64]; omega
  have hw3 : IntKind.i64.wrap ((i : Int) + ((1 : Nat) : Int)) = ((i + 1 : Nat) : Int) := by rw [IntKind.wrap_i64]; omega
  have hw4 : IntKind.i64.wrap ((l.length : Int) + ((1 : Nat) : Int)) = ((l.length + 1 : Nat) : Int) := by rw [IntKind.wrap_i64]; omega
  simp (maxSteps := 2000000) only [go_sem, ↓reduceIte, reduceCtorEq, Nat.reduceAdd, Nat.reduceMul, Nat.reduceSub, Nat.reduceLT, Nat.reduceLeDiff, Nat.reduceEqDiff, Int.reduceToNat, Int.reduceLT, Int.reduceLE, Int.reduceNeg, h10, hE, hw2, hw3, hw4]
  have hX1 : X.length = 2 := by rw [<- hX]; rfl
  refine ⟨⟨by omega, by omega, by omega⟩, hfl l, fun sp hsp => ⟨fun h => ?_, fun h => ?_⟩⟩
  ·have hs0 : sp = [] := List.eq_nil_of_length_eq_zero (by simp at h; omega)
   subst hs0
   have hT : List.take (l.length + 1 - i) [X] = [X] := List.take_of_length_le (by simp; omega)
   have hR : (List.take i (l.map encKV) ++ List.replicate (l.length + 1 - i) ([.int .i64 0, .int .i64 0] : List D)).length = l.length + 1 := by simp; omega
   have hL : (lay (List.take i (l.map encKV) ++ List.replicate (l.length + 1 - i) [.int .i64 0, .int .i64 0]) i [X]).length = l.length + 1 := by rw [lay_length (by rw [hR]; simp; omega), hR]
   have hfin := ins_rows (X := X) (Z := [.int .i64 0, .int .i64 0]) (L := l.map encKV) (by simp) hlt
   have hf1 : flatRows (List.take i (l.map encKV) ++ List.replicate (l.length + 1 - i) [.int .i64 0, .int .i64 0]) := fun r hr => (List.mem_append.1 hr).elim (fun hr => hfl l r (List.mem_of_mem_take hr)) (fun hr => by rw [List.eq_of_mem_replicate hr]; simp [D.flat])
   have hf2 : flatRows (lay (List.take i (l.map encKV) ++ List.replicate (l.length + 1 - i) [.int .i64 0, .int .i64 0]) i [X]) := flat_lay hf1 hfx
   simp (maxSteps := 2000000) only [go_sem, ↓reduceIte, reduceCtorEq, Nat.reduceAdd, Nat.reduceMul, Nat.reduceSub, Nat.reduceLT, Nat.reduceLeDiff, Nat.reduceEqDiff, Int.reduceToNat, Int.reduceLT, Int.reduceLE, Int.reduceNeg, List.append_nil, hR, hT, hL, hfin]
   refine ⟨⟨by omega, by omega⟩, ⟨by omega, by omega, by omega, by omega, by omega⟩, ⟨by omega, by omega, by omega⟩, ⟨by simpa [flatRows] using hfx, hf1⟩, ⟨by omega, by omega, by omega⟩, ⟨by omega, by omega, by omega⟩, by kernel_rfl, by kernel_rfl, hf2, ?_⟩
   refine Fin.nt results50 [0, 1, 2] ?_ ?_ ?_ <;> try trivial
   all_goals (simp [objsLe, envLe, find, St.obj, AObj.renF, AV.renF, AV.renF1, Leaf.renF, LowAll, AV.Low, AV.Low1, Leaf.Low, AObj.Low, Ptr.renF, Ptr.Low]; try simp [hX])
  ·have hs0 : 0 < sp.length := by simp at h; omega
   have hfin := ins_wide (X := X) (L := l.map encKV) (sp := sp) (by simp) hlt hs0
   have hWl : (l.map encKV ++ sp).length = l.length + sp.length := by simp
   have hus : (List.take (l.length + 1 - (i + 1)) (List.take (l.length + 1 - i) (List.drop i (l.map encKV ++ sp)))).length = l.length - i := by
    rw [List.length_take, List.length_take, List.length_drop, hWl]; omega
   have hL1 : (lay (l.map encKV ++ sp) (i + 1) (List.take (l.length + 1 - (i + 1)) (List.take (l.length + 1 - i) (List.drop i (l.map encKV ++ sp))))).length = l.length + sp.length := by
    rw [lay_length (by rw [hus, hWl]; omega), hWl]
   have hT : List.take (l.length + 1 - i) [X] = [X] := List.take_of_length_le (by simp; omega)
   refine ⟨⟨by omega, by rw [hWl]; omega⟩, ⟨by omega, by omega, by rw [hWl]; omega⟩, ?_⟩
   refine CallK_apart o74 (by simp [apart, St.obj, find]; omega) ?_
   simp (maxSteps := 2000000) only [go_sem, ↓reduceIte, reduceCtorEq, Nat.reduceAdd, Nat.reduceMul, Nat.reduceSub, Nat.reduceLT, Nat.reduceLeDiff, Nat.reduceEqDiff, Int.reduceToNat, Int.reduceLT, Int.reduceLE, Int.reduceNeg, hw2, hw3, hw4, hT, hL1, hWl]
   refine ⟨⟨by omega, by omega, by omega⟩, ⟨by omega, by omega, by omega⟩, by kernel_rfl, by kernel_rfl, ⟨by omega, by omega, by omega⟩, by simpa [flatRows] using hfx, ?_⟩
   refine Fin.ent (Ent.wide (t := 6) (o := 0) (sz := 2) (m := l.length) (n := l.length + 1) rfl rfl (by rw [lay_length (by rw [hL1]; simp; omega), hL1]; omega)) ?_
   rw [hfin]
   refine evl ?_
   refine Fin.nt results50 [0, 1, 2] ?_ ?_ ?_ <;> try trivial
   all_goals (simp [objsLe, envLe, find, St.obj, AObj.renF, AV.renF, AV.renF1, Leaf.renF, LowAll, AV.Low, AV.Low1, Leaf.Low, AObj.Low, Ptr.renF, Ptr.Low]; try simp [hX])
 ·have hi' : i = l.length := by omega
  subst hi'
  have hE : ((l.length : Int) == l.length) = true := by simp
  simp (maxSteps := 2000000) only [go_sem, ↓reduceIte, reduceCtorEq, Nat.reduceAdd, Nat.reduceMul, Nat.reduceSub, Nat.reduceLT, Nat.reduceLeDiff, Nat.reduceEqDiff, Int.reduceToNat, Int.reduceLT, Int.reduceLE, Int.reduceNeg, h10, hE]
  refine ⟨⟨by omega, by omega, by omega⟩, ⟨by simpa [flatRows] using hfx, by simp, by omega, by omega⟩, ?_⟩
  refine Fin.nt results50 [0, 1, 2] ?_ ?_ ?_ <;> try trivial
  all_goals (simp [objsLe, envLe, find, St.obj, AObj.renF, AV.renF, AV.renF1, Leaf.renF, LowAll, AV.Low, AV.Low1, Leaf.Low, AObj.Low, Ptr.renF, Ptr.Low]; try simp)
theorem c67 (l : List Seen) (hl : l.length <= maxLen) {fid : FuncId} {m : Nat} {r : List D} {p : Seen -> Bool} (he : enters prog fid = true)
  (hp : ∀ x : Seen, Ctr prog fid [.agg ((encSeen x).map .dat), .one (.ptr (.ro m [r] 0 0))] [] (.one (.dat (.bool (p x)))) []) :
  Ctr prog 67 [.one (.dat (.sl 2 (l.map encSeen))), .one (.fn fid [.ro m [r] 0 0])] [] (.one (.dat (.int .i64 (ixF p l)))) [] := by
 refine Ctr.bd mixed func67 rfl ?_
 refine evl ?_
 refine LoopK_intro (fun n s => ∃ i : Nat, i <= l.length /\ n = l.length - i /\ (∀ j (hj : j < l.length), j < i -> p l[j] = false) /\ s = mkSt [(8, .one (.dat (.int .i64 i))), (7, .one (.dat (.int .i64 l.length))), (1, .one (.fn fid [.ro m [r] 0 0])), (0, .one (.dat (.sl 2 (l.map encSeen))))] []) l.length _
  (Ent.wk []) ⟨0, by omega, by omega, by simp, rfl⟩ ?_
 rintro n s ⟨i, hi, rfl, ht, rfl⟩ K hK
 refine evl ?_
 constructor <;> intro h
 ·have hlt : i < l.length := by simpa using h
  have hw := wrap_succ hlt hl
  refine ⟨⟨by omega, by omega⟩, hlt, ?_⟩
  have hpx := hp l[i]
  simp only [getD_map hlt, encSeen, List.map_cons, List.map_nil, List.take_succ_cons, List.take_zero] at hpx ⊢
  refine CallK_pure he hpx rfl ?_
  refine sv0 ?_
  constructor <;> intro h
  ·apply hK
   refine evl ?_
   refine Fin.nt results67 [] ?_ ?_ ?_ <;> try trivial
   (refine rsl ?_; try exact .intro)
   exact (ixF_some hlt h ht).symm
  ·apply hK
   refine ⟨l.length - (i + 1), _, by omega, Ent.wk [], i + 1, by omega, rfl, fun j hj hji => ?_, rfl⟩
   by_cases e : j = i
   ·subst e; exact h
   ·exact ht j hj (by omega)
 ·have hge : i = l.length := by simp at h; omega
  subst hge
  apply hK
  refine evl ?_
  refine Fin.nt results67 [] ?_ ?_ ?_ <;> try trivial
  (refine rsl ?_; try exact .intro)
  exact (ixF_none fun j hj => ht j hj hj).symm
theorem c66 (l : List Seen) (hl : l.length <= 16777216) : Ctr prog 66 [.one (.dat (.sl 2 (l.map encSeen)))] [] (.one (.own 0)) [.vec 2 true (l.map encSeen)] := by
 refine Ctr.bd mixed func66 rfl ?_
 refine evl ?_
 intro b hb
 constructor <;> intro h
 ·have : l = [] := by simpa using hb h
  subst this
  refine Fin.ent (Ent.emp (t := 2) (sz := 2) rfl) ?_
  refine evl ?_
  refine Fin.nt results66 [0] ?_ ?_ ?_ <;> try trivial
  all_goals exact entd
 ·refine ⟨by simp, ⟨by simp [encSeen, D.flat], by simp, by omega, by omega⟩, ?_⟩
  refine Fin.nt results66 [1] ?_ ?_ ?_ <;> try trivial
  all_goals exact entd
theorem c62 (l : List Write) (hl : l.length <= maxLen) {fid : FuncId} {m : Nat} {r : List D} {p : Write -> Bool} (he : enters prog fid = true)
  (hp : ∀ x : Write, Ctr prog fid [.agg ((encWrite x).map .dat), .one (.ptr (.ro m [r] 0 0))] [] (.one (.dat (.bool (p x)))) []) :
  Ctr prog 62 [.one (.dat (.sl 3 (l.map encWrite))), .one (.fn fid [.ro m [r] 0 0])] [] (.one (.dat (.int .i64 (ixF p l)))) [] := by
 refine Ctr.bd mixed func62 rfl ?_
 refine evl ?_
 refine LoopK_intro (fun n s => ∃ i : Nat, i <= l.length /\ n = l.length - i /\ (∀ j (hj : j < l.length), j < i -> p l[j] = false) /\ s = mkSt [(8, .one (.dat (.int .i64 i))), (7, .one (.dat (.int .i64 l.length))), (1, .one (.fn fid [.ro m [r] 0 0])), (0, .one (.dat (.sl 3 (l.map encWrite))))] []) l.length _
  (Ent.wk []) ⟨0, by omega, by omega, by simp, rfl⟩ ?_
 rintro n s ⟨i, hi, rfl, ht, rfl⟩ K hK
 refine evl ?_
 constructor <;> intro h
 ·have hlt : i < l.length := by simpa using h
  have hw := wrap_succ hlt hl
  refine ⟨⟨by omega, by omega⟩, hlt, ?_⟩
  have hpx := hp l[i]
  simp only [getD_map hlt, encWrite, List.map_cons, List.map_nil, List.take_succ_cons, List.take_zero] at hpx ⊢
  refine CallK_pure he hpx rfl ?_
  refine sv0 ?_
  constructor <;> intro h
  ·apply hK
   refine evl ?_
   refine Fin.nt results62 [] ?_ ?_ ?_ <;> try trivial
   (refine rsl ?_; try exact .intro)
   exact (ixF_some hlt h ht).symm
  ·apply hK
   refine ⟨l.length - (i + 1), _, by omega, Ent.wk [], i + 1, by omega, rfl, fun j hj hji => ?_, rfl⟩
   by_cases e : j = i
   ·subst e; exact h
   ·exact ht j hj (by omega)
 ·have hge : i = l.length := by simp at h; omega
  subst hge
  apply hK
  refine evl ?_
  refine Fin.nt results62 [] ?_ ?_ ?_ <;> try trivial
  (refine rsl ?_; try exact .intro)
  exact (ixF_none fun j hj => ht j hj hj).symm
theorem c60 (l : List Write) (hl : l.length <= 16777216) : Ctr prog 60 [.one (.dat (.sl 3 (l.map encWrite)))] [] (.one (.own 0)) [.vec 3 true (l.map encWrite)] := by
 refine Ctr.bd mixed func60 rfl ?_
 refine evl ?_
 intro b hb
 constructor <;> intro h
 ·have : l = [] := by simpa using hb h
  subst this
  refine Fin.ent (Ent.emp (t := 2) (sz := 3) rfl) ?_
  refine evl ?_
  refine Fin.nt results60 [0] ?_ ?_ ?_ <;> try trivial
  all_goals exact entd
 ·refine ⟨by simp, ⟨by simp [encWrite, D.flat], by simp, by omega, by omega⟩, ?_⟩
  refine Fin.nt results60 [1] ?_ ?_ ?_ <;> try trivial
  all_goals exact entd
theorem c59 (l : List Write) (hl : l.length <= 16777216) {fid : FuncId} {m : Nat} {r : List D} {p : Write -> Bool} (he : enters prog fid = true)
  (hp : ∀ x : Write, Ctr prog fid [.agg ((encWrite x).map .dat), .one (.ptr (.ro m [r] 0 0))] [] (.one (.dat (.bool (p x)))) []) :
  Ctr prog 59 [.one (.own 0), .one (.fn fid [.ro m [r] 0 0])] [.vec 3 true (l.map encWrite)] (.one (.own 1)) [.dead, .vec 3 true ((l.filter fun x => !p x).map encWrite)] := by
 have hl' : l.length <= maxLen := Nat.le_trans hl (by decide)
 have hfl : ∀ R : List Write, flatRows (R.map encWrite) := fun R => by simp [flatRows, encWrite, D.flat]
 refine Ctr.of_body mixed func59 rfl (by kernel_rfl) (Nat.le_of_ble_eq_true rfl) (by simp [AV.Clean, AV.Clean1, Leaf.Clean]) (by simp [AObj.Sep]) (by simp) ?_ (by simp [AV.Low, AV.Low1, Leaf.Low]) ?_
 ·intro o ho
  have : o = 0 := by simpa using ho
  subst this
  simp [Objs, Compat]
 show wpA _ _ _ (FinQ _ _ _ _ _) _
 refine evl ?_
 refine CallK_pure e62 (c62 l hl' he hp) rfl ?_
 rcases ixF_cases p l with ⟨e, hno⟩ | ⟨i0, hi0, e, hpi, hno⟩
 ·rw [e, filt_all hno]
  refine evl ?_
  refine Fin.ent (Ent.move (t := 4) (o := 0) (sz := 3) (sep := true) (rows := l.map encWrite) rfl rfl (hfl l)) ?_
  refine evl ?_
  refine Fin.nt results59 [0, 1] ?_ ?_ ?_ <;> try trivial
  all_goals exact entd
 ·rw [e]
  have hne : ((i0 : Int) == -1) = false := by first | (simp; done) | (simp; omega)
  have hw0 := wrap_succ hi0 hl'
  simp (maxSteps := 2000000) only [go_sem, seval, hne, hw0]
  refine LoopK_intro (fun n s => ∃ (i j : Nat) (R : List Write), j <= l.length /\ i < j /\ n = l.length - j /\ R.length = l.length /\ R.drop j = l.drop j /\ R.take i = (l.take j).filter (fun x => !p x) /\
    s = mkSt [(6, .one (.dat (.int .i64 j))), (5, .one (.dat (.int .i64 i))), (1, .one (.fn fid [.ro m [r] 0 0])), (0, .one (.own 0))] [.vec 3 true (R.map encWrite)]) (l.length - (i0 + 1)) _
   (Ent.wk [0]) ⟨i0, i0 + 1, l, by omega, by omega, rfl, rfl, rfl, filt0 hi0 hpi hno, rfl⟩ ?_
  rintro n s ⟨i, j, R, hj, hij, rfl, hR, hd, ht, rfl⟩ K hK
  rcases Nat.lt_or_ge j l.length with hlt | hge
  ·have hltR : j < R.length := by omega
   have hltI : i < R.length := by omega
   obtain ⟨hg, hd'⟩ := drop_get hd hltR hlt
   have hdj : decide ((j : Int) < l.length) = true := by simpa using hlt
   have hw1 := wrap_succ hlt hl'
   have hw2 := wrap_succ (show i < l.length by omega) hl'
   have hpx := hp l[j]
   simp only [encWrite, List.map_cons, List.map_nil] at hpx
   simp (maxSteps := 2000000) only [go_sem, seval, hR, hdj, getD_map hltR, hg, encWrite]
   refine ⟨⟨by omega, by omega⟩, ⟨hlt, by simp [D.flat]⟩, ?_⟩
   refine CallK_pure he hpx rfl ?_
   simp (maxSteps := 2000000) only [go_sem, seval, hR, encWrite, hw1, hw2]
   constructor <;> intro h
   ·refine ⟨⟨by omega, by omega⟩, ⟨by simp [D.flat], by omega⟩, ?_⟩
    apply hK
    refine ⟨l.length - (j + 1), _, by omega, Ent.weak (ids := [0]) (by simp) rfl (by simp) (by rw [List.map_set]; simp [objsLe, envLe, find, St.obj, AObj.renF, AV.renF, AV.renF1, Leaf.renF, LowAll, AV.Low, AV.Low1, Leaf.Low, AObj.Low, Ptr.renF, Ptr.Low]; try rfl) (by simp [objsLe, envLe, find, St.obj, AObj.renF, AV.renF, AV.renF1, Leaf.renF, LowAll, AV.Low, AV.Low1, Leaf.Low, AObj.Low, Ptr.renF, Ptr.Low]) (by simp [objsLe, envLe, find, St.obj, AObj.renF, AV.renF, AV.renF1, Leaf.renF, LowAll, AV.Low, AV.Low1, Leaf.Low, AObj.Low, Ptr.renF, Ptr.Low]), i + 1, j + 1, R.set i l[j], by omega, by omega, rfl, by simp [hR], ?_, filt_keep ht hltI hlt (by simpa using h), rfl⟩
    rw [List.drop_set_of_lt (by omega), hd']
   ·apply hK
    exact ⟨l.length - (j + 1), _, by omega, Ent.wk [0], i, j + 1, R, by omega, by omega, rfl, hR, hd', filt_skip ht hlt (by simpa using h), rfl⟩
  ·have hje : j = l.length := by omega
   subst hje
   have hdj : decide ((l.length : Int) < l.length) = false := by simp
   simp (maxSteps := 2000000) only [go_sem, seval, hR, hdj]
   apply hK
   simp (maxSteps := 2000000) only [go_sem, seval, hR]
   have hll : (lay (R.map encWrite) i (List.replicate (l.length - i) [.int .i64 0, .bool false, .int .i64 0])).length = l.length := by rw [lay_length (by simp; omega)]; simp [hR]
   have hfin : (lay (R.map encWrite) i (List.replicate (l.length - i) [.int .i64 0, .bool false, .int .i64 0])).take i = (l.filter fun x => !p x).map encWrite := by
    rw [lay_take (by simp; omega), <- List.map_take, ht, List.take_length]
   refine ⟨⟨by omega, by omega, by omega⟩, hfl R, ⟨by omega, by rw [hll]; omega⟩, ?_⟩
   refine Fin.ent (Ent.part (t := 4) (o := 0) (sz := 3) (sep := true) (n := i) (rows := lay (R.map encWrite) i (List.replicate (l.length - i) [.int .i64 0, .bool false, .int .i64 0])) rfl rfl (flat_lay (hfl R) (by simp [flatRows, D.flat])) (by rw [hll]; omega)) ?_
   rw [hfin]
   refine evl ?_
   refine Fin.nt results59 [0, 1] ?_ ?_ ?_ <;> try trivial
   all_goals exact entd
theorem c64 (l : List Write) (i : Nat) (hi : i <= l.length) (x : Write) (hl : l.length <= 16777216) :
  Ctr prog 64 [.one (.own 0), .one (.dat (.int .i64 i)), .one (.own 1)] [.vec 3 true (l.map encWrite), .vec 3 true [encWrite x]] (.one (.own 2)) [.dead, .vec 3 true [encWrite x], .vec 3 true ((l.take i ++ x :: l.drop i).map encWrite)] := by
 have hl' : l.length <= maxLen := Nat.le_trans hl (by decide)
 have hfl : ∀ R : List Write, flatRows (R.map encWrite) := fun R => by simp [flatRows, encWrite, D.flat]
 have hfx : flatRows [encWrite x] := hfl [x]
 refine Ctr.of_body mixed func64 rfl (by kernel_rfl) (Nat.le_of_ble_eq_true rfl) (by simp [AV.Clean, AV.Clean1, Leaf.Clean]) (by simp [AObj.Sep]) (by simp) ?_ (by simp [AV.Low, AV.Low1, Leaf.Low]) ?_
 ·intro o ho
  have : o = 0 \/ o = 1 := by simp at ho; omega
  rcases this with rfl | rfl <;> simp [Objs, Compat]
 show wpA _ _ _ (FinQ _ _ _ _ _) _
 have h10 : (((1 : Nat) : Int) == 0) = false := rfl
 rcases Nat.lt_or_ge i l.length with hlt | hge
 ·have hE : ((i : Int) == l.length) = false := by first | (simp; done) | (simp; omega)
  have hw : IntKind.i64.wrap ((l.length : Int) + 1) = ((l.length + 1 : Nat) : Int) := by rw [IntKind.wrap_i64]; omega
  generalize hX : encWrite x = X at *
  have hw2 : IntKind.i64.wrap (((l.length + 1 : Nat) : Int) - (i : Int)) = ((l.length + 1 - i : Nat) : Int) := by rw [IntKind.wrap_i64]; omega
  have hw3 : IntKind.i64.wrap ((i : Int) + ((1 : Nat) : Int)) = ((i + 1 : Nat) : Int) := by rw [IntKind.wrap_i64]; omega
  have hw4 : IntKind.i64.wrap ((l.length : Int) + ((1 : Nat) : Int)) = ((l.length + 1 : Nat) : Int) := by rw [IntKind.wrap_i64]; omega
  simp (maxSteps := 2000000) only [go_sem, ↓reduceIte, reduceCtorEq, Nat.reduceAdd, Nat.reduceMul, Nat.reduceSub, Nat.reduceLT, Nat.reduceLeDiff, Nat.reduceEqDiff, Int.reduceToNat, Int.reduceLT, Int.reduceLE, Int.reduceNeg, h10, hE, hw2, hw3, hw4]
  have hX1 : X.length = 3 := by rw [<- hX]; rfl
  refine ⟨⟨by omega, by omega, by omega⟩, hfl l, fun sp hsp => ⟨fun h => ?_, fun h => ?_⟩⟩
  ·have hs0 : sp = [] := List.eq_nil_of_length_eq_zero (by simp at h; omega)
   subst hs0
   have hT : List.take (l.length + 1 - i) [X] = [X] := List.take_of_length_le (by simp; omega)
   have hR : (List.take i (l.map encWrite) ++ List.replicate (l.length + 1 - i) ([.int .i64 0, .bool false, .int .i64 0] : List D)).length = l.length + 1 := by simp; omega
   have hL : (lay (List.take i (l.map encWrite) ++ List.replicate (l.length + 1 - i) [.int .i64 0, .bool false, .int .i64 0]) i [X]).length = l.length + 1 := by rw [lay_length (by rw [hR]; simp; omega), hR]
   have hfin := ins_rows (X := X) (Z := [.int .i64 0, .bool false, .int .i64 0]) (L := l.map encWrite) (by simp) hlt
   have hf1 : flatRows (List.take i (l.map encWrite) ++ List.replicate (l.length + 1 - i) [.int .i64 0, .bool false, .int .i64 0]) := fun r hr => (List.mem_append.1 hr).elim (fun hr => hfl l r (List.mem_of_mem_take hr)) (fun hr => by rw [List.eq_of_mem_replicate hr]; simp [D.flat])
   have hf2 : flatRows (lay (List.take i (l.map encWrite) ++ List.replicate (l.length + 1 - i) [.int .i64 0, .bool false, .int .i64 0]) i [X]) := flat_lay hf1 hfx
   simp (maxSteps := 2000000) only [go_sem, ↓reduceIte, reduceCtorEq, Nat.reduceAdd, Nat.reduceMul, Nat.reduceSub, Nat.reduceLT, Nat.reduceLeDiff, Nat.reduceEqDiff, Int.reduceToNat, Int.reduceLT, Int.reduceLE, Int.reduceNeg, List.append_nil, hR, hT, hL, hfin]
   refine ⟨⟨by omega, by omega⟩, ⟨by omega, by omega, by omega, by omega, by omega⟩, ⟨by omega, by omega, by omega⟩, ⟨by simpa [flatRows] using hfx, hf1⟩, ⟨by omega, by omega, by omega⟩, ⟨by omega, by omega, by omega⟩, by kernel_rfl, by kernel_rfl, hf2, ?_⟩
   refine Fin.nt results64 [0, 1, 2] ?_ ?_ ?_ <;> try trivial
   all_goals (simp [objsLe, envLe, find, St.obj, AObj.renF, AV.renF, AV.renF1, Leaf.renF, LowAll, AV.Low, AV.Low1, Leaf.Low, AObj.Low, Ptr.renF, Ptr.Low]; try simp [hX])
  ·have hs0 : 0 < sp.length := by simp at h; omega
   have hfin := ins_wide (X := X) (L := l.map encWrite) (sp := sp) (by simp) hlt hs0
   have hWl : (l.map encWrite ++ sp).length = l.length + sp.length := by simp
   have hus : (List.take (l.length + 1 - (i + 1)) (List.take (l.length + 1 - i) (List.drop i (l.map encWrite ++ sp)))).length = l.length - i := by
    rw [List.length_take, List.length_take, List.length_drop, hWl]; omega
   have hL1 : (lay (l.map encWrite ++ sp) (i + 1) (List.take (l.length + 1 - (i + 1)) (List.take (l.length + 1 - i) (List.drop i (l.map encWrite ++ sp))))).length = l.length + sp.length := by
    rw [lay_length (by rw [hus, hWl]; omega), hWl]
   have hT : List.take (l.length + 1 - i) [X] = [X] := List.take_of_length_le (by simp; omega)
   refine ⟨⟨by omega, by rw [hWl]; omega⟩, ⟨by omega, by omega, by rw [hWl]; omega⟩, ?_⟩
   refine CallK_apart o81 (by simp [apart, St.obj, find]; omega) ?_
   simp (maxSteps := 2000000) only [go_sem, ↓reduceIte, reduceCtorEq, Nat.reduceAdd, Nat.reduceMul, Nat.reduceSub, Nat.reduceLT, Nat.reduceLeDiff, Nat.reduceEqDiff, Int.reduceToNat, Int.reduceLT, Int.reduceLE, Int.reduceNeg, hw2, hw3, hw4, hT, hL1, hWl]
   refine ⟨⟨by omega, by omega, by omega⟩, ⟨by omega, by omega, by omega⟩, by kernel_rfl, by kernel_rfl, ⟨by omega, by omega, by omega⟩, by simpa [flatRows] using hfx, ?_⟩
   refine Fin.ent (Ent.wide (t := 6) (o := 0) (sz := 3) (m := l.length) (n := l.length + 1) rfl rfl (by rw [lay_length (by rw [hL1]; simp; omega), hL1]; omega)) ?_
   rw [hfin]
   refine evl ?_
   refine Fin.nt results64 [0, 1, 2] ?_ ?_ ?_ <;> try trivial
   all_goals (simp [objsLe, envLe, find, St.obj, AObj.renF, AV.renF, AV.renF1, Leaf.renF, LowAll, AV.Low, AV.Low1, Leaf.Low, AObj.Low, Ptr.renF, Ptr.Low]; try simp [hX])
 ·have hi' : i = l.length := by omega
  subst hi'
  have hE : ((l.length : Int) == l.length) = true := by simp
  simp (maxSteps := 2000000) only [go_sem, ↓reduceIte, reduceCtorEq, Nat.reduceAdd, Nat.reduceMul, Nat.reduceSub, Nat.reduceLT, Nat.reduceLeDiff, Nat.reduceEqDiff, Int.reduceToNat, Int.reduceLT, Int.reduceLE, Int.reduceNeg, h10, hE]
  refine ⟨⟨by omega, by omega, by omega⟩, ⟨by simpa [flatRows] using hfx, by simp, by omega, by omega⟩, ?_⟩
  refine Fin.nt results64 [0, 1, 2] ?_ ?_ ?_ <;> try trivial
  all_goals (simp [objsLe, envLe, find, St.obj, AObj.renF, AV.renF, AV.renF1, Leaf.renF, LowAll, AV.Low, AV.Low1, Leaf.Low, AObj.Low, Ptr.renF, Ptr.Low]; try simp)
end Go.Proofs.Ytppbonemkipgeaa.Mod
