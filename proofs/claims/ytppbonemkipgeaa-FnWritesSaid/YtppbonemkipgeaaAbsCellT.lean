/- Calls of functions that are given variables by their address, and the contracts of such functions from their bodies: what is told of them is a statement. Own work. -/
import Derived.Test.YtppbonemkipgeaaAbsCell
import Derived.Test.YtppbonemkipgeaaAbsTac
namespace Go.Abs
set_option linter.unusedVariables false

theorem objs_whole (st : St) {o : Nat} (ho : o < st.next) : Objs st.whole o = st.obj o := by
 unfold Objs St.whole
 rw [List.getD_eq_getElem?_getD, wholeFrom_get st _ _ _ ho, Nat.zero_add]; rfl
theorem whole_len (st : St) : st.whole.length = st.next := wholeFrom_length st _ _

theorem CallK_cell {P : Program} {st : St} {fid : FuncId} {avs : List AV} {K : AV -> St -> Prop} (os : List Nat) {as : List AV} {xs : List AObj} {R : AV -> List AObj -> Prop} (he : enters P fid = true) (hc : CtrC P fid as xs R)
  (hv : as.map (AV.renF (0 :: os)) = avs) (hx : os.map st.obj = xs)
  (hK : ∀ r0 xs', R r0 xs' -> os.length <= xs'.length -> K (r0.renF (cellIds os st.next xs'.length)) (st.behind (setAll st.whole os xs' ++ xs'.drop os.length)))
  (hn : os.Nodup := by simp) (hlt : ∀ o ∈ os, o < st.next := by simp) (hnr : ∀ x ∈ xs, x.NoRef := by simp [AObj.NoRef, Leaf.isDat]) (has : ∀ a ∈ as, a.Mid (xs.length + 1) := by simp [AV.Mid, AV.Mid1, Leaf.Mid, Ptr.Mid]) : CallK P st fid avs K := by
 subst hv
 have hxs : os.map (Objs st.whole) = xs := by
  rw [<- hx]
  exact List.map_congr_left fun o ho => objs_whole st (hlt o ho)
 have hw := hc.whole os st.whole hn (fun o ho => by rw [whole_len]; exact hlt o ho) hxs hnr has
 refine CallK_whole he hw rfl (hc.inh os st.whole (by rw [<- hx, List.length_map])) ?_
 rintro r ys ⟨r0, xs', h1, h2, rfl, rfl⟩
 rw [whole_len]
 exact hK r0 xs' h1 h2

def FinC (P : Program) (fn : Func) (l : List (Nat × Obj)) (xs : List AObj) (R : AV -> List AObj -> Prop) : Exit -> St -> Prop :=
 FinR P fn (.ballast l :: xs) fun r ys => ∃ xs', ys = .ballast l :: xs' /\ (∀ x ∈ xs', x.NoRef) /\ r.Mid (xs'.length + 1) /\ R r xs'
def FinCN (P : Program) (fn : Func) (l : List (Nat × Obj)) (xs : List AObj) (R : AV -> List AObj -> Prop) (st : St) : Prop := FinC P fn l xs R .normal st
theorem FinC_normal {P : Program} {fn : Func} {l : List (Nat × Obj)} {xs : List AObj} {R : AV -> List AObj -> Prop} {st : St} : FinC P fn l xs R .normal st = FinCN P fn l xs R st := rfl
theorem FinC_ret {P : Program} {fn : Func} {l : List (Nat × Obj)} {xs : List AObj} {R : AV -> List AObj -> Prop} {st : St} : FinC P fn l xs R .ret st = FinCN P fn l xs R st := by
 simp [FinC, FinCN, FinR]

theorem CtrC.body {P : Program} {f : FuncId} {fn : Func} {c : Code} {as : List AV} {xs : List AObj} {R : AV -> List AObj -> Prop} (hm : P.follows .mixedOrders = true) (hf : P.funcs[f]? = some fn) (hb : fn.body = some c)
  (hbody : ∀ l : List (Nat × Obj), wpA P (xs.length + 1) c (FinC P fn l xs R) (mkSt (argEnv 0 as) (.ballast l :: xs)))
  (hi : ∃ r xs', R r xs' /\ xs.length <= xs'.length) (hok : codeOk fn.ntmps c = true := by kernel_rfl) (hn : as.length <= fn.ntmps := by exact Nat.le_of_ble_eq_true rfl) : CtrC P f as xs R :=
 ⟨hi, fun l => CtrW.of_body hm hf hb hok hn (hbody l)⟩

theorem low_noref {l : List (Nat × Obj)} {xs' : List AObj} (h : ∀ x ∈ xs', x.NoRef) : LowAll [] (.ballast l :: xs') := by
 refine ⟨by simp, fun x hx => ?_⟩
 rcases List.mem_cons.1 hx with rfl | hx
 ·trivial
 ·have := h x hx
  cases x with
  | box c =>
   intro lf hl
   have h2 := this lf hl
   cases lf <;> first | trivial | (simp [Leaf.isDat] at h2)
  | pin _ _ => exact this.elim
  | dead => trivial
  | hole => trivial
  | vec _ _ _ => trivial
  | frz _ _ => trivial
  | wide _ _ _ => trivial
  | ballast _ => trivial
theorem mid_low {r : AV} {n : Nat} (h : r.Mid n) : r.Low n := by
 have p : ∀ {q : Ptr}, q.Mid n -> q.Low n := fun {q} h => by cases q <;> first | trivial | exact h.2
 have lf : ∀ {q : Leaf}, q.Mid n -> q.Low n := fun {q} h => by
  cases q with
  | dat d => trivial
  | emp => trivial
  | own o => exact h.2
  | part o i m => exact h.2
  | ptr q => exact p h
  | fn f caps => exact fun c hc => p (h c hc)
 have a1 : ∀ {q : AV}, q.Mid1 n -> q.Low1 n := fun {q} h => by
  cases q with
  | one l => exact lf h
  | agg ls => exact fun l hl => lf (h l hl)
  | tup vs => trivial
  | ifg b v => trivial
 cases r with
 | one l => exact a1 (q := .one l) h
 | agg ls => exact a1 (q := .agg ls) h
 | tup vs => exact fun v hv => a1 (h v hv)
 | ifg b v => exact a1 h

theorem FinCN.nt {P : Program} {fn : Func} {l : List (Nat × Obj)} {xs : List AObj} {R : AV -> List AObj -> Prop} {st : St} {rvs : Array ResultVar} {q : Prop} {rs : List AV} (h1 : fn.results = rvs) (ids : List Nat) (r : AV) (xs' : List AObj) (hR : R r xs') (hq : q)
  (h3 : packA rs = r.renF (0 :: ids)) (h7 : objsLe st (0 :: ids) (0 :: ids) (.ballast l :: xs'))
  (hlen : xs.length <= xs'.length := by simp) (hcomp : ∀ o, o < xs.length -> Compat (Objs xs o) (Objs xs' o) := by first | (simp [Objs, Compat]; done) | (intro o ho; have : o = 0 \/ o = 1 := by { simp at ho; omega }; rcases this with rfl | rfl <;> simp [Objs, Compat]) | fail) (hno : ∀ x ∈ xs', x.NoRef := by simp [AObj.NoRef, Leaf.isDat]) (hmid : r.Mid (xs'.length + 1) := by simp [AV.Mid, AV.Mid1, Leaf.Mid, Ptr.Mid])
  (h2 : resA P st rvs.toList = some (q, rs) := by simp (maxSteps := 2000000) only [go_sem, ↓reduceIte, reduceCtorEq, Nat.reduceAdd, Nat.reduceMul, Nat.reduceSub, Nat.reduceLT, Nat.reduceLeDiff, Nat.reduceEqDiff, Int.reduceToNat, Int.reduceLT, Int.reduceLE, Int.reduceNeg, resA]; rfl)
  (h4 : xs.length <= ids.length := by simp) (h5 : (0 :: ids).take (xs.length + 1) = List.range (xs.length + 1) := by rfl) (h6 : (0 :: ids).Nodup := by simp) : FinCN P fn l xs R st :=
 ⟨.inl rfl, r, .ballast l :: xs', ⟨xs', rfl, hno, hmid, hR⟩, Nat.succ_le_succ hlen, fun o ho => by
   cases o with
   | zero => exact Compat.refl _
   | succ o => exact hcomp o (Nat.lt_of_succ_lt_succ ho), low_noref hno, mid_low hmid, Fin.intro h1 (0 :: ids) h2 hq h3 (Nat.succ_le_succ h4) h5 h6 h7⟩
theorem renF_isDat {ids : List Nat} {r : AV} (h : r.isDat = true) : r.renF ids = r := by
 have hl : ∀ {l : Leaf}, l.isDat = true -> l.renF ids = l := fun {l} h => by cases l <;> first | rfl | (simp [Leaf.isDat] at h)
 cases r with
 | one l => exact congrArg AV.one (hl h)
 | agg ls =>
  show AV.agg _ = _
  have : List.map (Leaf.renF ids) ls = List.map id ls := List.map_congr_left fun l hm => hl (List.all_eq_true.1 h l hm)
  rw [this, List.map_id]
 | tup vs => cases h
 | ifg b v => cases h
theorem FinCN.nd {P : Program} {fn : Func} {l : List (Nat × Obj)} {xs : List AObj} {R : AV -> List AObj -> Prop} {st : St} {rvs : Array ResultVar} {q : Prop} {rs : List AV} (h1 : fn.results = rvs) (ids : List Nat) (hR : R (packA rs) (ids.map st.obj)) (hq : q)
  (h2 : resA P st rvs.toList = some (q, rs) := by simp (maxSteps := 2000000) only [go_sem, ↓reduceIte, reduceCtorEq, Nat.reduceAdd, Nat.reduceMul, Nat.reduceSub, Nat.reduceLT, Nat.reduceLeDiff, Nat.reduceEqDiff, Int.reduceToNat, Int.reduceLT, Int.reduceLE, Int.reduceNeg, resA]; rfl)
  (hr : (packA rs).isDat = true := by rfl) (h0 : st.obj 0 = .ballast l := by rfl) (hn0 : 0 < st.next := by simp) (hlt : ∀ o ∈ ids, o < st.next := by simp)
  (hcomp : ∀ o, o < xs.length -> Compat (Objs xs o) (Objs (ids.map st.obj) o) := by first | (simp [Objs, Compat, St.obj, find]; done) | (intro o ho; have : o = 0 \/ o = 1 := by { simp at ho; omega }; rcases this with rfl | rfl <;> simp [Objs, Compat, St.obj, find]) | fail)
  (hno : ∀ x ∈ ids.map st.obj, x.NoRef := by simp [AObj.NoRef, Leaf.isDat, St.obj, find])
  (h4 : xs.length <= ids.length := by simp) (h5 : (0 :: ids).take (xs.length + 1) = List.range (xs.length + 1) := by rfl) (h6 : (0 :: ids).Nodup := by simp) : FinCN P fn l xs R st := by
 have hmid : (packA rs).Mid ((ids.map st.obj).length + 1) := by
  have hl : ∀ {q : Leaf} {n : Nat}, q.isDat = true -> q.Mid n := fun {q n} h => by cases q <;> first | trivial | (simp [Leaf.isDat] at h)
  generalize packA rs = r at hr
  cases r with
  | one l => exact hl hr
  | agg ls => exact fun l hm => hl (List.all_eq_true.1 hr l hm)
  | tup vs => cases hr
  | ifg b v => cases hr
 have hren : ∀ x, x.NoRef -> ∀ L : List Nat, x = AObj.renF L x := fun x hx L => by
  cases x with
  | box c =>
   show _ = AObj.box _
   have : List.map (Leaf.renF L) c = List.map id c := List.map_congr_left fun l hm => by
    have := hx l hm
    cases l <;> first | rfl | (simp [Leaf.isDat] at this)
   rw [this, List.map_id]
  | _ => rfl
 have ho : ∀ (L : List Nat), (∀ o ∈ L, o < st.next) -> (∀ x ∈ L.map st.obj, x.NoRef) -> objsLe st (0 :: ids) L (L.map st.obj) := fun L => by
  induction L with
  | nil => intro _ _; trivial
  | cons a L ih =>
   intro hl hn
   exact ⟨⟨hl a (by simp), .inr (hren _ (hn _ (by simp)) _)⟩, ih (fun o h => hl o (by simp [h])) fun x h => hn x (List.mem_cons_of_mem _ h)⟩
 exact FinCN.nt h1 ids (packA rs) (ids.map st.obj) hR hq (renF_isDat hr).symm ⟨⟨hn0, .inr h0⟩, ho ids hlt hno⟩ (by simpa using h4) hcomp hno hmid h2 h4 h5 h6
theorem FinCN.ent {P : Program} {fn : Func} {l : List (Nat × Obj)} {xs : List AObj} {R : AV -> List AObj -> Prop} {st st1 : St} (h : Ent (xs.length + 1) st st1) (hf : FinCN P fn l xs R st1) : FinCN P fn l xs R st := by
 obtain ⟨he, r, objs', h1, h2, h3, h4, h5, h6⟩ := hf
 exact ⟨he, r, objs', h1, h2, h3, h4, h5, Fin.ent h h6⟩

attribute [go_sem] FinC_normal FinC_ret wholeFrom St.whole setAll cellIds AV.renF AV.renF1 Leaf.renF Ptr.renF
end Go.Abs
