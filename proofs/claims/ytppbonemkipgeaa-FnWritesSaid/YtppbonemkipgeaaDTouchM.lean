/- Contracts: TouchM. -/
import Derived.Test.YtppbonemkipgeaaRows
import Derived.Test.YtppbonemkipgeaaDTy
import Derived.Test.YtppbonemkipgeaaAbsTac
import Derived.Test.YtppbonemkipgeaaAbsData
import Derived.Test.YtppbonemkipgeaaDMap
import Derived.Test.YtppbonemkipgeaaDSorts
import Derived.WalkKit
import Derived.ProofKit
import Derived.OpenShut
namespace Go.Proofs.Ytppbonemkipgeaa.Mod
open Go.Proofs.Try Go.Abs Go.Proofs.Ytppbonemkipgeaa.Ty Go.ChangeShapes Go.WideShapes Go.ChangeAt Go.RowKit
set_option linter.unusedSimpArgs false
set_option linter.unusedVariables false
set_option maxHeartbeats 8000000
set_option maxRecDepth 100000
def bktOf (k : Int) : Int := if within k 0 99 = true then k.tmod 2 else -1
theorem c35 (x : Int) : Ctr prog 35 [.one (.dat (.int .i64 x))] [] (.one (.dat (.int .i64 (bktOf x)))) [] := by
 refine Ctr.bd mixed func35 rfl ?_
 refine evl ?_
 refine scs ?_
 refine ck e55 (c55 ..) rfl ?_
 refine evl ?_
 constructor <;> intro hq
 ·refine Fin.nt results35 [] ?_ ?_ ?_ <;> try trivial
  (refine rsl ?_; try exact .intro)
  rw [bktOf, if_neg (by simpa using hq)]
 ·refine scs ?_
  refine Fin.nt results35 [] ?_ ?_ ?_ <;> try trivial
  (refine rsl ?_; try exact .intro)
  rw [bktOf, if_pos (by simpa using hq)]
def touchGo : List Write -> List Int
 | [] => []
 | w :: l => if 0 <= bktOf w.Key then bktOf w.Key :: touchGo l else touchGo l
def touchedM (l : List Write) : List Int := putsN [] (touchGo l)
theorem touchGo_len : ∀ l : List Write, (touchGo l).length <= l.length
 | [] => Nat.le_refl _
 | w :: l => by
  have := touchGo_len l
  rw [touchGo]
  split <;> simp <;> omega
theorem touchedM_len (l : List Write) : (touchedM l).length <= l.length := by
 have h1 := putsN_len (touchGo l) []
 have h2 := touchGo_len l
 unfold touchedM
 simp only [List.length_nil, Nat.zero_add] at h1
 omega
theorem c10 (l : List Write) (hl : l.length <= 1048576) : Ctr prog 10 [.one (.dat (.sl 3 (l.map encWrite)))] [] (.one (.own 0)) [.vec 1 true ((touchedM l).map encI)] := by
 have hmx : maxLen = 9223372036854775807 := rfl
 have hg := touchGo_len l
 have hasc : touchedM l = Lib.compact ((touchGo l).mergeSort fun x y => decide (x <= y)) := by rw [compact_sort]; rfl
 have hml : ((touchGo l).mergeSort fun x y => decide (x <= y)).length <= 16777216 := by rw [List.length_mergeSort]; omega
 rw [hasc]
 refine Ctr.bd mixed func10 rfl ?_
 refine evl ?_
 refine scs ?_
 refine LoopK_intro (fun zn zs => ∃ (i : Nat) (o : List Int), i <= l.length /\ zn = l.length - i /\ (touchGo l = o ++ touchGo (l.drop i) /\ o.length <= i) /\ zs = mkSt [(10, .one (.dat (.int .i64 i))), (9, .one (.dat (.int .i64 (l.length)))), (8, .one (.dat (.sl 3 (l.map encWrite)))), (3, .one (.own 0)), (0, .one (.dat (.sl 3 (l.map encWrite))))] [.vec 1 true (o.map encI)]) (l.length) _
  (Ent.wk [0]) ⟨0, [], by omega, by omega, ⟨rfl, Nat.le_refl _⟩, rfl⟩ ?_
 rintro zn zs ⟨i, o, hi, rfl, hinv, rfl⟩ K hK
 rcases Nat.lt_or_ge i (l.length) with hlt | hge
 ·have hdi : decide ((i : Int) < ((l.length : Nat) : Int)) = true := decide_eq_true (by omega)
  have hw := wrap_succ hlt (show l.length <= maxLen by omega)
  obtain ⟨hv1, hv2⟩ := hinv
  obtain ⟨x, hxi⟩ : ∃ x, l[i] = x := ⟨_, rfl⟩
  rw [List.drop_eq_getElem_cons hlt, hxi, touchGo] at hv1
  simp (maxSteps := 2000000) only [go_sem, seval, hdi, hw, getD_map hlt, hxi, encWrite]
  refine scs ?_
  refine ck e35 (c35 x.Key) rfl ?_
  simp (maxSteps := 2000000) only [go_sem, seval, hdi, hw, getD_map hlt, hxi, encWrite]
  refine scs ?_
  constructor <;> intro hq
  ·rw [if_pos (by simpa using hq)] at hv1
   refine scs ?_
   (apply hK
    exact ⟨l.length - (i + 1), _, by omega, Ent.wk [3], i + 1, (o ++ [bktOf x.Key]), by omega, rfl, ⟨by rw [hv1]; simp, by simp; omega⟩, rfl⟩)
  ·rw [if_neg (by simpa using hq)] at hv1
   (apply hK
    exact ⟨l.length - (i + 1), _, by omega, Ent.wk [0], i + 1, o, by omega, rfl, ⟨hv1, by omega⟩, rfl⟩)
 ·have hge' : l.length = i := by omega
  subst hge'
  have hdi : decide (((l.length : Nat) : Int) < ((l.length : Nat) : Int)) = false := by simp
  have hoe : touchGo l = o := by rw [hinv.1, List.drop_length, touchGo, List.append_nil]
  clear hinv
  rw [hoe] at hg hml
  refine sv1 ?_
  apply hK
  rw [hoe]
  refine evl ?_
  refine scs ?_
  refine CallK_os [0] e42 (by simp [osOk, St.obj, find]) (c42 o (by omega)) rfl ?_
  refine evl ?_
  refine scs ?_
  refine CallK_os [0] e43 (by simp [osOk, St.obj, find]) (c43 _ hml) rfl ?_
  refine evl ?_
  refine scs ?_
  refine Fin.nt results10 [1] ?_ ?_ ?_ <;> try trivial
  all_goals exact entd
end Go.Proofs.Ytppbonemkipgeaa.Mod
