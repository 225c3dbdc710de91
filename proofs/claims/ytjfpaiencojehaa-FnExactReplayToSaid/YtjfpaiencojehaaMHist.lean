/- Contracts: Hist. -/
import Derived.Test.YtjfpaiencojehaaRows
import Derived.Test.YtjfpaiencojehaaTy
import Derived.Test.YtjfpaiencojehaaAbsTac
import Derived.Test.YtjfpaiencojehaaAbsData
import Derived.Test.YtjfpaiencojehaaMMap
import Derived.Test.YtjfpaiencojehaaMSl2
import Derived.Test.YtjfpaiencojehaaMFam2
import Derived.WalkKit
import Derived.ProofKit
import Derived.OpenShut
namespace Go.Proofs.Ytjfpaiencojehaa.Mod
open Go.Abs Go.Proofs.Ytjfpaiencojehaa.Ty Go.ChangeShapes Go.WideShapes Go.ChangeAt Go.RowKit
set_option linter.unusedSimpArgs false
set_option linter.unusedVariables false
set_option maxHeartbeats 8000000
set_option maxRecDepth 100000
def cmdOkC (c : Cmd) : Bool := cmdOk c.Kind c.Key c.Val
def batchOk (b : Batch) : Bool := bif b.Collect then ((b.Cmds.length : Int) == 0) else within b.Cmds.length 1 6 && b.Cmds.all cmdOkC
def isTell (s : Int) (e : TEv) : Bool := bif e.Kind == 3 then e.Serial == s else false
def evIs (k s : Int) (e : TEv) : Bool := bif e.Kind == k then e.Serial == s else false
def codes (l : List TEv) (c : Int) : Nat := l.countP fun e => bif e.Kind == 3 then e.Code == c else false
def placeOf (l : List TEv) (k s : Int) : Int := ixF (evIs k s) l
def inTime (l : List TEv) (a b : Int) : Bool := decide (0 ≤ placeOf l 3 a) && decide (0 ≤ placeOf l 1 b) && decide (placeOf l 3 a < placeOf l 1 b)
theorem placeOf_le (l : List TEv) (k s : Int) : -1 ≤ placeOf l k s ∧ placeOf l k s ≤ l.length := by
  unfold placeOf
  rcases ixF_cases (evIs k s) l with ⟨e, _⟩ | ⟨i, hi, e, _⟩ <;> rw [e] <;> omega
theorem c93 (x : TEv) (k s : Int) : Ctr Try.prog 93 [.agg ((encTEv x).map .dat), .one (.ptr (.ro 1 [[.int .i64 k]] 0 0)), .one (.ptr (.ro 1 [[.int .i64 s]] 0 0))] [] (.one (.dat (.bool (evIs k s x)))) [] := by
  simp only [encTEv, List.map_cons, List.map_nil]
  refine Ctr.bd mixed Try.func93 rfl ?_
  refine evl ?_
  repeat ((with_reducible show _ ∧ _); refine scA ?_)
  refine Fin.nt Try.results93 [] ?_ ?_ ?_ <;> try trivial
theorem c63 (l : List TEv) (hl : l.length ≤ maxLen) (k s : Int) : Ctr Try.prog 63 [.one (.dat (.sl 6 (l.map encTEv))), .one (.dat (.int .i64 k)), .one (.dat (.int .i64 s))] [] (.one (.dat (.int .i64 (placeOf l k s)))) [] := by
  refine Ctr.bd mixed Try.func63 rfl ?_
  refine evl ?_
  first | refine CallK_pure e92 (c92_k2 l hl e93 (fun x _ => c93 x k s)) rfl ?_ | refine EffK_pw e92 (c92_k2 l hl e93 (fun x _ => c93 x k s)) rfl ?_ | refine EffK_pu e92 (c92_k2 l hl e93 (fun x _ => c93 x k s)) rfl ?_ | refine CCallK_pl e92 (c92_k2 l hl e93 (fun x _ => c93 x k s)) rfl rfl ?_ | refine CCallK_pm e92 (c92_k2 l hl e93 (fun x _ => c93 x k s)) rfl rfl ?_
  refine evl ?_
  refine Fin.nt Try.results63 [] ?_ ?_ ?_ <;> try trivial
theorem c57 (l : List TEv) (hl : l.length ≤ maxLen) (k s : Int) : Ctr Try.prog 57 [.one (.dat (.sl 6 (l.map encTEv))), .one (.dat (.int .i64 k)), .one (.dat (.int .i64 s))] [] (.one (.dat (.int .i64 (placeOf l k s)))) [] := by
  refine Ctr.bd mixed Try.func57 rfl ?_
  refine evl ?_
  refine LoopK_intro (fun zn zs => ∃ i : Nat, i ≤ l.length ∧ zn = l.length - i ∧ (∀ j (hj : j < l.length), j < i → evIs k s l[j] = false) ∧ zs = mkSt [(7, .one (.dat (.int .i64 i))), (0, .one (.dat (.sl 6 (l.map encTEv)))), (1, .one (.dat (.int .i64 k))), (2, .one (.dat (.int .i64 s)))] []) (l.length) _
    (Ent.wk []) ⟨0, by omega, by omega, by simp, rfl⟩ ?_
  rintro zn zs ⟨i, hi, rfl, hinv, rfl⟩ K hK
  rcases Nat.lt_or_ge i (l.length) with hlt | hge
  · have hdi : decide ((i : Int) < ((l.length : Nat) : Int)) = true := decide_eq_true (by omega)
    have hw := wrap_succ hlt hl
    simp (maxSteps := 2000000) only [go_sem, ↓reduceIte, reduceCtorEq, Nat.reduceAdd, Nat.reduceMul, Nat.reduceSub, Nat.reduceLT, Nat.reduceLeDiff, Nat.reduceEqDiff, Int.reduceToNat, Int.reduceLT, Int.reduceLE, Int.reduceNeg, hdi, hw, getD_map hlt, encTEv, List.length_map]
    repeat ((with_reducible show _ ∧ _); refine scA ?_)
    refine ⟨fun h => ?_, fun h => ?_⟩
    · apply hK
      refine evl ?_
      refine Fin.nt Try.results57 [] ?_ ?_ ?_ <;> try trivial
      first | exact True.intro | (refine rsl ?_; try exact True.intro)
      exact (ixF_some hlt h hinv).symm
    · (apply hK
       exact ⟨l.length - (i + 1), _, by omega, Ent.wk [], i + 1, by omega, rfl, fun j hj hji => if e : j = i then by subst e; exact h else hinv j hj (by omega), rfl⟩)
  · have hge' : l.length = i := by omega
    subst hge'
    have hdi : decide (((l.length : Nat) : Int) < ((l.length : Nat) : Int)) = false := by simp
    simp (maxSteps := 2000000) only [go_sem, ↓reduceIte, reduceCtorEq, Nat.reduceAdd, Nat.reduceMul, Nat.reduceSub, Nat.reduceLT, Nat.reduceLeDiff, Nat.reduceEqDiff, Int.reduceToNat, Int.reduceLT, Int.reduceLE, Int.reduceNeg, hdi, List.length_map]
    apply hK
    refine evl ?_
    refine Fin.nt Try.results57 [] ?_ ?_ ?_ <;> try trivial
    first | exact True.intro | (refine rsl ?_; try exact True.intro)
    exact (ixF_none fun j hj => hinv j hj hj).symm
def told (L : List TEv) (s : Int) : Bool := match L.find? (evIs 3 s) with
  | some e => e.Code == 0
  | none => false
theorem told_none {L : List TEv} {s : Int} (h : ∀ j (hj : j < L.length), evIs 3 s L[j] = false) : told L s = false := by
  unfold told
  have : L.find? (evIs 3 s) = none := by
    rw [List.find?_eq_none]
    intro x hx
    obtain ⟨j, hj, rfl⟩ := List.getElem_of_mem hx
    simp [h j hj]
  rw [this]
theorem told_some {L : List TEv} {s : Int} {i : Nat} (hi : i < L.length) (hp : evIs 3 s L[i] = true) (h : ∀ j (hj : j < L.length), j < i → evIs 3 s L[j] = false) : told L s = (L[i].Code == 0) := by
  unfold told
  have : L.find? (evIs 3 s) = some L[i] := by
    rw [List.find?_eq_some_iff_getElem]
    refine ⟨hp, i, hi, rfl, fun j hj => ?_⟩
    simp [h j (by omega) hj]
  rw [this]
def orderGo (L : List TEv) (o : List Int) : List TEv → List Int
  | [] => o
  | e :: r => orderGo L (bif (bif e.Kind != 2 then true else o.any fun x => x == e.Serial) then o else bif told L e.Serial then o ++ [e.Serial] else o) r
def order (L : List TEv) : List Int := orderGo L [] L
theorem orderGo_len (L : List TEv) : ∀ (r : List TEv) (o : List Int), (orderGo L o r).length ≤ o.length + r.length
  | [], o => by simp [orderGo]
  | e :: r, o => by
    unfold orderGo
    refine Nat.le_trans (orderGo_len L r _) ?_
    cases (bif e.Kind != 2 then true else o.any fun x => x == e.Serial) <;> cases told L e.Serial <;> simp <;> omega
theorem order_len (L : List TEv) : (order L).length ≤ L.length := by have := orderGo_len L L []; simpa [order] using this
theorem c56 (l : List Int) (hl : l.length ≤ maxLen) (x : Int) : Ctr Try.prog 56 [.one (.dat (.sl 1 (l.map encI))), .one (.dat (.int .i64 x))] [] (.one (.dat (.bool (l.any fun y => y == x)))) [] := by
  refine Ctr.bd mixed Try.func56 rfl ?_
  refine evl ?_
  refine LoopK_intro (fun zn zs => ∃ i : Nat, i ≤ l.length ∧ zn = l.length - i ∧ ((l.any fun y => y == x) = ((l.drop i).any fun y => y == x)) ∧ zs = mkSt [(5, .one (.dat (.int .i64 i))), (0, .one (.dat (.sl 1 (l.map encI)))), (1, .one (.dat (.int .i64 x)))] []) (l.length) _
    (Ent.wk []) ⟨0, by omega, by omega, by simp, rfl⟩ ?_
  rintro zn zs ⟨i, hi, rfl, hinv, rfl⟩ K hK
  rcases Nat.lt_or_ge i (l.length) with hlt | hge
  · have hdi : decide ((i : Int) < ((l.length : Nat) : Int)) = true := decide_eq_true (by omega)
    have hw := wrap_succ hlt hl
    rw [List.drop_eq_getElem_cons hlt, List.any_cons] at hinv
    simp (maxSteps := 2000000) only [go_sem, ↓reduceIte, reduceCtorEq, Nat.reduceAdd, Nat.reduceMul, Nat.reduceSub, Nat.reduceLT, Nat.reduceLeDiff, Nat.reduceEqDiff, Int.reduceToNat, Int.reduceLT, Int.reduceLE, Int.reduceNeg, hdi, hw, getD_map hlt, encI, List.length_map]
    repeat ((with_reducible show _ ∧ _); refine scA ?_)
    refine ⟨fun h => ?_, fun h => ?_⟩
    · apply hK
      refine evl ?_
      refine Fin.nt Try.results56 [] ?_ ?_ ?_ <;> try trivial
      first | exact True.intro | (refine rsl ?_; try exact True.intro)
      rw [hinv, h, Bool.true_or]
    · rw [h, Bool.false_or] at hinv
      (apply hK
       exact ⟨l.length - (i + 1), _, by omega, Ent.wk [], i + 1, by omega, rfl, hinv, rfl⟩)
  · have hge' : l.length = i := by omega
    subst hge'
    have hdi : decide (((l.length : Nat) : Int) < ((l.length : Nat) : Int)) = false := by simp
    simp (maxSteps := 2000000) only [go_sem, ↓reduceIte, reduceCtorEq, Nat.reduceAdd, Nat.reduceMul, Nat.reduceSub, Nat.reduceLT, Nat.reduceLeDiff, Nat.reduceEqDiff, Int.reduceToNat, Int.reduceLT, Int.reduceLE, Int.reduceNeg, hdi, List.length_map]
    apply hK
    refine evl ?_
    refine Fin.nt Try.results56 [] ?_ ?_ ?_ <;> try trivial
    first | exact True.intro | (refine rsl ?_; try exact True.intro)
    rw [hinv]; simp
theorem c27 (l : List TEv) (hl : l.length ≤ 16777216) : Ctr Try.prog 27 [.one (.dat (.sl 6 (l.map encTEv)))] [] (.one (.own 0)) [.vec 1 true ((order l).map encI)] := by
  have hl' : l.length ≤ maxLen := Nat.le_trans hl (by decide)
  refine Ctr.bd mixed Try.func27 rfl ?_
  refine evl ?_
  repeat ((with_reducible show _ ∧ _); refine scA ?_)
  refine LoopK_intro (fun zn zs => ∃ (i : Nat) (o : List Int), i ≤ l.length ∧ zn = l.length - i ∧ (o.length ≤ i ∧ order l = orderGo l o (l.drop i)) ∧ zs = mkSt [(4, .one (.dat (.int .i64 i))), (3, .one (.own 0)), (0, .one (.dat (.sl 6 (l.map encTEv))))] [.vec 1 true (o.map encI)]) (l.length) _
    (Ent.wk [0]) ⟨0, [], by omega, by omega, ⟨by simp, rfl⟩, rfl⟩ ?_
  rintro zn zs ⟨i, o, hi, rfl, hinv, rfl⟩ K hK
  rcases Nat.lt_or_ge i (l.length) with hlt | hge
  · have hdi : decide ((i : Int) < ((l.length : Nat) : Int)) = true := decide_eq_true (by omega)
    have hw := wrap_succ hlt hl'
    obtain ⟨ho, hinv⟩ := hinv
    have hmx : maxLen = 9223372036854775807 := rfl
    rw [List.drop_eq_getElem_cons hlt, orderGo] at hinv
    simp (maxSteps := 2000000) only [go_sem, ↓reduceIte, reduceCtorEq, Nat.reduceAdd, Nat.reduceMul, Nat.reduceSub, Nat.reduceLT, Nat.reduceLeDiff, Nat.reduceEqDiff, Int.reduceToNat, Int.reduceLT, Int.reduceLE, Int.reduceNeg, hdi, hw, getD_map hlt, encTEv, List.length_map]
    repeat ((with_reducible show _ ∧ _); refine scA ?_)
    first | refine CallK_pure e56 (c56 o (by omega) l[i].Serial) rfl ?_ | refine EffK_pw e56 (c56 o (by omega) l[i].Serial) rfl ?_ | refine EffK_pu e56 (c56 o (by omega) l[i].Serial) rfl ?_ | refine CCallK_pl e56 (c56 o (by omega) l[i].Serial) rfl rfl ?_ | refine CCallK_pm e56 (c56 o (by omega) l[i].Serial) rfl rfl ?_
    simp (maxSteps := 2000000) only [go_sem, ↓reduceIte, reduceCtorEq, Nat.reduceAdd, Nat.reduceMul, Nat.reduceSub, Nat.reduceLT, Nat.reduceLeDiff, Nat.reduceEqDiff, Int.reduceToNat, Int.reduceLT, Int.reduceLE, Int.reduceNeg, hdi, hw, getD_map hlt, encTEv, List.length_map]
    repeat ((with_reducible show _ ∧ _); refine scA ?_)
    refine ⟨fun h => ?_, fun h => ?_⟩
    · rw [h, cond_true] at hinv
      (apply hK
       exact ⟨l.length - (i + 1), _, by omega, Ent.wk [0], i + 1, o, by omega, rfl, ⟨by omega, hinv⟩, rfl⟩)
    · rw [h, cond_false] at hinv
      repeat ((with_reducible show _ ∧ _); refine scA ?_)
      first | refine CallK_pure e57 (c57 l hl' 3 l[i].Serial) rfl ?_ | refine EffK_pw e57 (c57 l hl' 3 l[i].Serial) rfl ?_ | refine EffK_pu e57 (c57 l hl' 3 l[i].Serial) rfl ?_ | refine CCallK_pl e57 (c57 l hl' 3 l[i].Serial) rfl rfl ?_ | refine CCallK_pm e57 (c57 l hl' 3 l[i].Serial) rfl rfl ?_
      unfold placeOf
      rcases ixF_cases (evIs 3 l[i].Serial) l with ⟨e, hno⟩ | ⟨k, hkl, e, hp, hno⟩
      · rw [told_none hno, cond_false] at hinv
        rw [e]
        have h0 : 0 < l.length := by omega
        simp (maxSteps := 2000000) only [go_sem, ↓reduceIte, reduceCtorEq, Nat.reduceAdd, Nat.reduceMul, Nat.reduceSub, Nat.reduceLT, Nat.reduceLeDiff, Nat.reduceEqDiff, Int.reduceToNat, Int.reduceLT, Int.reduceLE, Int.reduceNeg, hdi, hw, getD_map hlt, encTEv, List.length_map, getD_map h0]
        (apply hK
         exact ⟨l.length - (i + 1), _, by omega, Ent.wk [0], i + 1, o, by omega, rfl, ⟨by omega, hinv⟩, rfl⟩)
      · rw [told_some hkl hp hno] at hinv
        rw [e]
        have hk0 : decide (0 ≤ (k : Int)) = true := by simp
        simp (maxSteps := 2000000) only [go_sem, ↓reduceIte, reduceCtorEq, Nat.reduceAdd, Nat.reduceMul, Nat.reduceSub, Nat.reduceLT, Nat.reduceLeDiff, Nat.reduceEqDiff, Int.reduceToNat, Int.reduceLT, Int.reduceLE, Int.reduceNeg, hdi, hw, getD_map hlt, encTEv, List.length_map, hk0, getD_map hkl]
        repeat ((with_reducible show _ ∧ _); refine scA ?_)
        refine ⟨fun h => ?_, fun h => ?_⟩
        · rw [h, cond_true] at hinv
          repeat ((with_reducible show _ ∧ _); refine scA ?_)
          (apply hK
           exact ⟨l.length - (i + 1), _, by omega, Ent.wk [2], i + 1, o ++ [l[i].Serial], by omega, rfl, ⟨by simp; omega, hinv⟩, rfl⟩)
        · rw [h, cond_false] at hinv
          (apply hK
           exact ⟨l.length - (i + 1), _, by omega, Ent.wk [0], i + 1, o, by omega, rfl, ⟨by omega, hinv⟩, rfl⟩)
  · have hge' : l.length = i := by omega
    subst hge'
    have hdi : decide (((l.length : Nat) : Int) < ((l.length : Nat) : Int)) = false := by simp
    obtain ⟨_, hinv⟩ := hinv
    rw [List.drop_length, orderGo] at hinv
    simp (maxSteps := 2000000) only [go_sem, ↓reduceIte, reduceCtorEq, Nat.reduceAdd, Nat.reduceMul, Nat.reduceSub, Nat.reduceLT, Nat.reduceLeDiff, Nat.reduceEqDiff, Int.reduceToNat, Int.reduceLT, Int.reduceLE, Int.reduceNeg, hdi, List.length_map]
    apply hK
    rw [hinv]
    refine evl ?_
    refine Fin.nt Try.results27 [0] ?_ ?_ ?_ <;> try trivial
    all_goals simp [objsLe, envLe, find, St.obj, AObj.renF, AV.renF, AV.renF1, Leaf.renF, LowAll, AV.Low, AV.Low1, Leaf.Low, AObj.Low, Ptr.renF, Ptr.Low]
theorem c62 (l : List TEv) (hl : l.length ≤ 16777216) : Ctr Try.prog 62 [.one (.dat (.sl 6 (l.map encTEv)))] [] (.one (.own 0)) [.vec 1 true ((order l).map encI)] := by
  have hl' : l.length ≤ maxLen := Nat.le_trans hl (by decide)
  refine Ctr.bd mixed Try.func62 rfl ?_
  refine evl ?_
  repeat ((with_reducible show _ ∧ _); refine scA ?_)
  refine LoopK_intro (fun zn zs => ∃ (i : Nat) (o : List Int), i ≤ l.length ∧ zn = l.length - i ∧ (o.length ≤ i ∧ order l = orderGo l o (l.drop i)) ∧ zs = mkSt [(10, .one (.dat (.int .i64 i))), (9, .one (.dat (.int .i64 (l.length)))), (8, .one (.dat (.sl 6 (l.map encTEv)))), (3, .one (.own 0)), (0, .one (.dat (.sl 6 (l.map encTEv))))] [.vec 1 true (o.map encI)]) (l.length) _
    (Ent.wk [0]) ⟨0, [], by omega, by omega, ⟨by simp, rfl⟩, rfl⟩ ?_
  rintro zn zs ⟨i, o, hi, rfl, hinv, rfl⟩ K hK
  rcases Nat.lt_or_ge i (l.length) with hlt | hge
  · have hdi : decide ((i : Int) < ((l.length : Nat) : Int)) = true := decide_eq_true (by omega)
    have hw := wrap_succ hlt hl'
    obtain ⟨ho, hinv⟩ := hinv
    have hmx : maxLen = 9223372036854775807 := rfl
    rw [List.drop_eq_getElem_cons hlt, orderGo] at hinv
    simp (maxSteps := 2000000) only [go_sem, ↓reduceIte, reduceCtorEq, Nat.reduceAdd, Nat.reduceMul, Nat.reduceSub, Nat.reduceLT, Nat.reduceLeDiff, Nat.reduceEqDiff, Int.reduceToNat, Int.reduceLT, Int.reduceLE, Int.reduceNeg, hdi, hw, getD_map hlt, encTEv, List.length_map]
    repeat ((with_reducible show _ ∧ _); refine scA ?_)
    first | refine CallK_pure e91 (c91 o (by omega) l[i].Serial) rfl ?_ | refine EffK_pw e91 (c91 o (by omega) l[i].Serial) rfl ?_ | refine EffK_pu e91 (c91 o (by omega) l[i].Serial) rfl ?_ | refine CCallK_pl e91 (c91 o (by omega) l[i].Serial) rfl rfl ?_ | refine CCallK_pm e91 (c91 o (by omega) l[i].Serial) rfl rfl ?_
    simp (maxSteps := 2000000) only [go_sem, ↓reduceIte, reduceCtorEq, Nat.reduceAdd, Nat.reduceMul, Nat.reduceSub, Nat.reduceLT, Nat.reduceLeDiff, Nat.reduceEqDiff, Int.reduceToNat, Int.reduceLT, Int.reduceLE, Int.reduceNeg, hdi, hw, getD_map hlt, encTEv, List.length_map]
    repeat ((with_reducible show _ ∧ _); refine scA ?_)
    refine ⟨fun h => ?_, fun h => ?_⟩
    · rw [h, cond_true] at hinv
      (apply hK
       exact ⟨l.length - (i + 1), _, by omega, Ent.wk [0], i + 1, o, by omega, rfl, ⟨by omega, hinv⟩, rfl⟩)
    · rw [h, cond_false] at hinv
      first | refine CallK_pure e63 (c63 l hl' 3 l[i].Serial) rfl ?_ | refine EffK_pw e63 (c63 l hl' 3 l[i].Serial) rfl ?_ | refine EffK_pu e63 (c63 l hl' 3 l[i].Serial) rfl ?_ | refine CCallK_pl e63 (c63 l hl' 3 l[i].Serial) rfl rfl ?_ | refine CCallK_pm e63 (c63 l hl' 3 l[i].Serial) rfl rfl ?_
      unfold placeOf
      rcases ixF_cases (evIs 3 l[i].Serial) l with ⟨e, hno⟩ | ⟨k, hkl, e, hp, hno⟩
      · rw [told_none hno, cond_false] at hinv
        rw [e]
        have h0 : 0 < l.length := by omega
        simp (maxSteps := 2000000) only [go_sem, ↓reduceIte, reduceCtorEq, Nat.reduceAdd, Nat.reduceMul, Nat.reduceSub, Nat.reduceLT, Nat.reduceLeDiff, Nat.reduceEqDiff, Int.reduceToNat, Int.reduceLT, Int.reduceLE, Int.reduceNeg, hdi, hw, getD_map hlt, encTEv, List.length_map, getD_map h0]
        repeat ((with_reducible show _ ∧ _); refine scA ?_)
        (apply hK
         exact ⟨l.length - (i + 1), _, by omega, Ent.wk [0], i + 1, o, by omega, rfl, ⟨by omega, hinv⟩, rfl⟩)
      · rw [told_some hkl hp hno] at hinv
        rw [e]
        have hk0 : decide (0 ≤ (k : Int)) = true := by simp
        simp (maxSteps := 2000000) only [go_sem, ↓reduceIte, reduceCtorEq, Nat.reduceAdd, Nat.reduceMul, Nat.reduceSub, Nat.reduceLT, Nat.reduceLeDiff, Nat.reduceEqDiff, Int.reduceToNat, Int.reduceLT, Int.reduceLE, Int.reduceNeg, hdi, hw, getD_map hlt, encTEv, List.length_map, hk0, getD_map hkl]
        repeat ((with_reducible show _ ∧ _); refine scA ?_)
        refine ⟨fun h => ?_, fun h => ?_⟩
        · rw [h, cond_true] at hinv
          repeat ((with_reducible show _ ∧ _); refine scA ?_)
          (apply hK
           exact ⟨l.length - (i + 1), _, by omega, Ent.wk [3], i + 1, o ++ [l[i].Serial], by omega, rfl, ⟨by simp; omega, hinv⟩, rfl⟩)
        · rw [h, cond_false] at hinv
          (apply hK
           exact ⟨l.length - (i + 1), _, by omega, Ent.wk [0], i + 1, o, by omega, rfl, ⟨by omega, hinv⟩, rfl⟩)
  · have hge' : l.length = i := by omega
    subst hge'
    have hdi : decide (((l.length : Nat) : Int) < ((l.length : Nat) : Int)) = false := by simp
    obtain ⟨_, hinv⟩ := hinv
    rw [List.drop_length, orderGo] at hinv
    simp (maxSteps := 2000000) only [go_sem, ↓reduceIte, reduceCtorEq, Nat.reduceAdd, Nat.reduceMul, Nat.reduceSub, Nat.reduceLT, Nat.reduceLeDiff, Nat.reduceEqDiff, Int.reduceToNat, Int.reduceLT, Int.reduceLE, Int.reduceNeg, hdi, List.length_map]
    apply hK
    rw [hinv]
    refine evl ?_
    refine Fin.nt Try.results62 [0] ?_ ?_ ?_ <;> try trivial
    all_goals simp [objsLe, envLe, find, St.obj, AObj.renF, AV.renF, AV.renF1, Leaf.renF, LowAll, AV.Low, AV.Low1, Leaf.Low, AObj.Low, Ptr.renF, Ptr.Low]
theorem any_take_true {α : Type} {p : α → Bool} {l : List α} {i k : Nat} (hk : k < i) (hl : k < l.length) (h : p l[k] = true) : (l.take i).any p = true :=
  List.any_eq_true.2 ⟨l[k], List.mem_take_iff_getElem.2 ⟨k, by omega, rfl⟩, h⟩
theorem any_take_false {α : Type} {p : α → Bool} {l : List α} {i : Nat} (h : ∀ j (hj : j < l.length), j < i → p l[j] = false) : (l.take i).any p = false := by
  rw [List.any_eq_false]
  intro x hx
  obtain ⟨j, hj, rfl⟩ := List.mem_take_iff_getElem.1 hx
  simp [h j (by omega) (by omega)]
def strictGo (L : List TEv) (pre : List Int) : List Int → Bool
  | [] => true
  | x :: r => bif pre.any (fun y => inTime L x y) then false else strictGo L (pre ++ [x]) r
def strict (L : List TEv) : Bool := strictGo L [] (order L)
end Go.Proofs.Ytjfpaiencojehaa.Mod
