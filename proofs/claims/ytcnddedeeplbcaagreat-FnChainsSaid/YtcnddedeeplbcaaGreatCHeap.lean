/- Contracts: Heap. -/
import Derived.Test.YtcnddedeeplbcaaGreatRows
import Derived.Test.YtcnddedeeplbcaaGreatCTy
import Derived.Test.YtcnddedeeplbcaaGreatAbsTac
import Derived.Test.YtcnddedeeplbcaaGreatAbsData
import Derived.Test.YtcnddedeeplbcaaGreatCFam3
import Derived.Test.YtcnddedeeplbcaaGreatCNum
import Derived.Test.YtcnddedeeplbcaaGreatCSl2
import Derived.WalkKit
import Derived.ProofKit
import Derived.OpenShut
namespace Go.Proofs.YtcnddedeeplbcaaGreat.Mod
open Go.Proofs.Tryz Go.Abs Go.Proofs.YtcnddedeeplbcaaGreat.Ty Go.ChangeShapes Go.WideShapes Go.ChangeAt Go.RowKit
set_option linter.unusedSimpArgs false
set_option linter.unusedVariables false
set_option maxHeartbeats 8000000
set_option maxRecDepth 100000
def sizeOf (c:Int):Int:=if c=0 then 8 else if c=1 then 16 else if c=2 then 40 else 0
def strideOf (c:Int):Int:=if c=0 then 12 else if c=1 then 20 else if c=2 then 44 else 0
def perPage (c:Int):Int:=if c=0 then 4 else if c=1 then 2 else if c=2 then 1 else 0
def genAt (s c:Int):Int:=if 0 <= s /\ s <= 23 /\ s % 4 < perPage c then s / 4 * 64 + 8 + s % 4 * strideOf c else -1
def startOf (s c:Int):Int:=if genAt s c < 0 then -1 else genAt s c + 4
theorem genAt_pos {s c:Int} (h1:0 <= s) (h2:s <= 23) (h:s % 4 < perPage c):genAt s c=s / 4 * 64 + 8 + s % 4 * strideOf c:=if_pos ⟨h1,h2,h⟩
theorem genAt_neg {s c:Int} (h:¬ (0 <= s /\ s <= 23 /\ s % 4 < perPage c)):genAt s c=-1:=if_neg h
theorem class_cases (c:Int):c=0 \/ c=1 \/ c=2 \/ (within c 0 2=false /\ sizeOf c=0 /\ strideOf c=0 /\ perPage c=0):=by
 by_cases h0:c=0
 ·exact .inl h0
 by_cases h1:c=1
 ·exact .inr (.inl h1)
 by_cases h2:c=2
 ·exact .inr (.inr (.inl h2))
 refine .inr (.inr (.inr ⟨?_,?_,?_,?_⟩))
 ·simp [within];omega
 ·simp [sizeOf,h0,h1,h2]
 ·simp [strideOf,h0,h1,h2]
 ·simp [perPage,h0,h1,h2]
theorem perPage_le (c:Int):0 <= perPage c /\ perPage c <= 4:=by
 unfold perPage;repeat' split
 all_goals omega
theorem stride_le (c:Int):0 <= strideOf c /\ strideOf c <= 44:=by
 unfold strideOf;repeat' split
 all_goals omega
theorem w_0:within 0 0 2=true:=rfl
theorem w_1:within 1 0 2=true:=rfl
theorem w_2:within 2 0 2=true:=rfl
theorem s_0:sizeOf 0=8:=rfl
theorem s_1:sizeOf 1=16:=rfl
theorem s_2:sizeOf 2=40:=rfl
theorem t_0:strideOf 0=12:=rfl
theorem t_1:strideOf 1=20:=rfl
theorem t_2:strideOf 2=44:=rfl
theorem p_0:perPage 0=4:=rfl
theorem p_1:perPage 1=2:=rfl
theorem p_2:perPage 2=1:=rfl
theorem genAt_bound {s c:Int} (h:0 <= genAt s c):0 <= s /\ s <= 23 /\ (c=0 \/ c=1 \/ c=2) /\ s % 4 < perPage c /\ genAt s c=s / 4 * 64 + 8 + s % 4 * strideOf c /\ genAt s c + 4 + sizeOf c <= 384:=by
 unfold genAt at h ⊢
 split at h
 ·rename_i hc
  obtain ⟨h1,h2,h3⟩:=hc
  rw [if_pos ⟨h1,h2,h3⟩]
  rcases class_cases c with rfl | rfl | rfl | ⟨_,_,_,e⟩
  ·rw [p_0] at h3;rw [t_0,s_0,p_0];refine ⟨h1,h2,.inl rfl,by omega,rfl,by omega⟩
  ·rw [p_1] at h3;rw [t_1,s_1,p_1];refine ⟨h1,h2,.inr (.inl rfl),by omega,rfl,by omega⟩
  ·rw [p_2] at h3;rw [t_2,s_2,p_2];refine ⟨h1,h2,.inr (.inr rfl),by omega,rfl,by omega⟩
  ·rw [e] at h3;omega
 ·omega
theorem c280 (c:Int):Ctr prog 280 [.one (.dat (.int .i64 c))] [] (.one (.dat (.bool (within c 0 2)))) []:=by
 refine Ctr.bd mixed func280 rfl ?_
 refine evw ?_
 (repeat' first
      | ((with_reducible show Abs.Fin _ _ _ _ _ _);refine Fin.nt results280 [] ?_ ?_ ?_ <;> try trivial)
      | ((first | refine CCallK_pl e57 (c57 ..) rfl rfl ?_ | refine CCallK_pm e57 (c57 ..) rfl rfl ?_ | refine ck e57 (c57 ..) rfl ?_);refine evw ?_)
      | with_reducible intro h
      | ((with_reducible show _ /\ _);apply And.intro))
 all_goals try ((refine rsl ?_;try exact .intro))
 all_goals first | rfl | simp_all
theorem c198 (c:Int):Ctr prog 198 [.one (.dat (.int .i64 c))] [] (.one (.dat (.bool (within c 0 23)))) []:=by
 refine Ctr.bd mixed func198 rfl ?_
 refine evw ?_
 (repeat' first
      | ((with_reducible show Abs.Fin _ _ _ _ _ _);refine Fin.nt results198 [] ?_ ?_ ?_ <;> try trivial)
      | ((first | refine CCallK_pl e57 (c57 ..) rfl rfl ?_ | refine CCallK_pm e57 (c57 ..) rfl rfl ?_ | refine ck e57 (c57 ..) rfl ?_);refine evw ?_)
      | with_reducible intro h
      | ((with_reducible show _ /\ _);apply And.intro))
 all_goals try ((refine rsl ?_;try exact .intro))
 all_goals first | rfl | simp_all
theorem c309 (c:Int):Ctr prog 309 [.one (.dat (.int .i64 c))] [] (.one (.dat (.bool (within c 0 255)))) []:=by
 refine Ctr.bd mixed func309 rfl ?_
 refine evw ?_
 (repeat' first
      | ((with_reducible show Abs.Fin _ _ _ _ _ _);refine Fin.nt results309 [] ?_ ?_ ?_ <;> try trivial)
      | ((first | refine CCallK_pl e57 (c57 ..) rfl rfl ?_ | refine CCallK_pm e57 (c57 ..) rfl rfl ?_ | refine ck e57 (c57 ..) rfl ?_);refine evw ?_)
      | with_reducible intro h
      | ((with_reducible show _ /\ _);apply And.intro))
 all_goals try ((refine rsl ?_;try exact .intro))
 all_goals first | rfl | simp_all
theorem c201 (c:Int):Ctr prog 201 [.one (.dat (.int .i64 c))] [] (.one (.dat (.int .i64 (sizeOf c)))) []:=by
 rcases class_cases c with rfl | rfl | rfl | ⟨hw,h1,h2,h3⟩
 all_goals
  refine Ctr.bd mixed func201 rfl ?_
  refine evw ?_
 ·(repeat' first
      | ((with_reducible show Abs.Fin _ _ _ _ _ _);refine Fin.nt results201 [] ?_ ?_ ?_ <;> try trivial)
      | ((first | refine CCallK_pl e280 (c280 ..) rfl rfl ?_ | refine CCallK_pm e280 (c280 ..) rfl rfl ?_ | refine ck e280 (c280 ..) rfl ?_);simp (maxSteps:=2000000) (disch:=omega) only [go_sem,↓reduceIte,reduceCtorEq,Nat.reduceAdd,Nat.reduceMul,Nat.reduceSub,Nat.reduceLT,Nat.reduceLeDiff,Nat.reduceEqDiff,Int.reduceToNat,Int.reduceLT,Int.reduceLE,Int.reduceNeg,Int.reduceEq,Int.reduceNe,Int.reduceBEq,Int.reduceBNe,Int.reduceAdd,Int.reduceMul,Int.reduceSub,Int.reduceTDiv,Int.reduceTMod,Nat.reduceBEq,wrap_id,Int.tmod_eq_emod_of_nonneg,Int.tdiv_eq_ediv_of_nonneg,not_false_eq_true,ne_eq,List.length_map,w_0,s_0])
      | with_reducible intro h
      | ((with_reducible show _ /\ _);apply And.intro))
  all_goals try ((refine rsl ?_;try exact .intro))
  all_goals first | rfl | simp_all | omega
 ·(repeat' first
      | ((with_reducible show Abs.Fin _ _ _ _ _ _);refine Fin.nt results201 [] ?_ ?_ ?_ <;> try trivial)
      | ((first | refine CCallK_pl e280 (c280 ..) rfl rfl ?_ | refine CCallK_pm e280 (c280 ..) rfl rfl ?_ | refine ck e280 (c280 ..) rfl ?_);simp (maxSteps:=2000000) (disch:=omega) only [go_sem,↓reduceIte,reduceCtorEq,Nat.reduceAdd,Nat.reduceMul,Nat.reduceSub,Nat.reduceLT,Nat.reduceLeDiff,Nat.reduceEqDiff,Int.reduceToNat,Int.reduceLT,Int.reduceLE,Int.reduceNeg,Int.reduceEq,Int.reduceNe,Int.reduceBEq,Int.reduceBNe,Int.reduceAdd,Int.reduceMul,Int.reduceSub,Int.reduceTDiv,Int.reduceTMod,Nat.reduceBEq,wrap_id,Int.tmod_eq_emod_of_nonneg,Int.tdiv_eq_ediv_of_nonneg,not_false_eq_true,ne_eq,List.length_map,w_1,s_1])
      | with_reducible intro h
      | ((with_reducible show _ /\ _);apply And.intro))
  all_goals try ((refine rsl ?_;try exact .intro))
  all_goals first | rfl | simp_all | omega
 ·(repeat' first
      | ((with_reducible show Abs.Fin _ _ _ _ _ _);refine Fin.nt results201 [] ?_ ?_ ?_ <;> try trivial)
      | ((first | refine CCallK_pl e280 (c280 ..) rfl rfl ?_ | refine CCallK_pm e280 (c280 ..) rfl rfl ?_ | refine ck e280 (c280 ..) rfl ?_);simp (maxSteps:=2000000) (disch:=omega) only [go_sem,↓reduceIte,reduceCtorEq,Nat.reduceAdd,Nat.reduceMul,Nat.reduceSub,Nat.reduceLT,Nat.reduceLeDiff,Nat.reduceEqDiff,Int.reduceToNat,Int.reduceLT,Int.reduceLE,Int.reduceNeg,Int.reduceEq,Int.reduceNe,Int.reduceBEq,Int.reduceBNe,Int.reduceAdd,Int.reduceMul,Int.reduceSub,Int.reduceTDiv,Int.reduceTMod,Nat.reduceBEq,wrap_id,Int.tmod_eq_emod_of_nonneg,Int.tdiv_eq_ediv_of_nonneg,not_false_eq_true,ne_eq,List.length_map,w_2,s_2])
      | with_reducible intro h
      | ((with_reducible show _ /\ _);apply And.intro))
  all_goals try ((refine rsl ?_;try exact .intro))
  all_goals first | rfl | simp_all | omega
 ·(repeat' first
      | ((with_reducible show Abs.Fin _ _ _ _ _ _);refine Fin.nt results201 [] ?_ ?_ ?_ <;> try trivial)
      | ((first | refine CCallK_pl e280 (c280 ..) rfl rfl ?_ | refine CCallK_pm e280 (c280 ..) rfl rfl ?_ | refine ck e280 (c280 ..) rfl ?_);simp (maxSteps:=2000000) (disch:=omega) only [go_sem,↓reduceIte,reduceCtorEq,Nat.reduceAdd,Nat.reduceMul,Nat.reduceSub,Nat.reduceLT,Nat.reduceLeDiff,Nat.reduceEqDiff,Int.reduceToNat,Int.reduceLT,Int.reduceLE,Int.reduceNeg,Int.reduceEq,Int.reduceNe,Int.reduceBEq,Int.reduceBNe,Int.reduceAdd,Int.reduceMul,Int.reduceSub,Int.reduceTDiv,Int.reduceTMod,Nat.reduceBEq,wrap_id,Int.tmod_eq_emod_of_nonneg,Int.tdiv_eq_ediv_of_nonneg,not_false_eq_true,ne_eq,List.length_map,hw,h1])
      | with_reducible intro h
      | ((with_reducible show _ /\ _);apply And.intro))
  all_goals try ((refine rsl ?_;try exact .intro))
  all_goals first | rfl | simp_all | omega
theorem c124 (c:Int):Ctr prog 124 [.one (.dat (.int .i64 c))] [] (.one (.dat (.int .i64 (sizeOf c)))) []:=by
 refine Ctr.bd mixed func124 rfl ?_
 refine evw ?_
 (repeat' first
      | ((with_reducible show Abs.Fin _ _ _ _ _ _);refine Fin.nt results124 [] ?_ ?_ ?_ <;> try trivial)
      | with_reducible intro h
      | ((with_reducible show _ /\ _);apply And.intro))
 all_goals try ((refine rsl ?_;try exact .intro))
 all_goals first | rfl | (simp_all [sizeOf];done) | omega
theorem c276 (c:Int):Ctr prog 276 [.one (.dat (.int .i64 c))] [] (.one (.dat (.int .i64 (strideOf c)))) []:=by
 rcases class_cases c with rfl | rfl | rfl | ⟨hw,h1,h2,h3⟩
 all_goals
  refine Ctr.bd mixed func276 rfl ?_
  refine evw ?_
 ·(repeat' first
      | ((with_reducible show Abs.Fin _ _ _ _ _ _);refine Fin.nt results276 [] ?_ ?_ ?_ <;> try trivial)
      | ((first | refine CCallK_pl e280 (c280 ..) rfl rfl ?_ | refine CCallK_pm e280 (c280 ..) rfl rfl ?_ | refine ck e280 (c280 ..) rfl ?_ | refine CCallK_pl e201 (c201 ..) rfl rfl ?_ | refine CCallK_pm e201 (c201 ..) rfl rfl ?_ | refine ck e201 (c201 ..) rfl ?_);simp (maxSteps:=2000000) (disch:=omega) only [go_sem,↓reduceIte,reduceCtorEq,Nat.reduceAdd,Nat.reduceMul,Nat.reduceSub,Nat.reduceLT,Nat.reduceLeDiff,Nat.reduceEqDiff,Int.reduceToNat,Int.reduceLT,Int.reduceLE,Int.reduceNeg,Int.reduceEq,Int.reduceNe,Int.reduceBEq,Int.reduceBNe,Int.reduceAdd,Int.reduceMul,Int.reduceSub,Int.reduceTDiv,Int.reduceTMod,Nat.reduceBEq,wrap_id,Int.tmod_eq_emod_of_nonneg,Int.tdiv_eq_ediv_of_nonneg,not_false_eq_true,ne_eq,List.length_map,w_0,s_0,t_0])
      | with_reducible intro h
      | ((with_reducible show _ /\ _);apply And.intro))
  all_goals try ((refine rsl ?_;try exact .intro))
  all_goals first | rfl | simp_all | omega
 ·(repeat' first
      | ((with_reducible show Abs.Fin _ _ _ _ _ _);refine Fin.nt results276 [] ?_ ?_ ?_ <;> try trivial)
      | ((first | refine CCallK_pl e280 (c280 ..) rfl rfl ?_ | refine CCallK_pm e280 (c280 ..) rfl rfl ?_ | refine ck e280 (c280 ..) rfl ?_ | refine CCallK_pl e201 (c201 ..) rfl rfl ?_ | refine CCallK_pm e201 (c201 ..) rfl rfl ?_ | refine ck e201 (c201 ..) rfl ?_);simp (maxSteps:=2000000) (disch:=omega) only [go_sem,↓reduceIte,reduceCtorEq,Nat.reduceAdd,Nat.reduceMul,Nat.reduceSub,Nat.reduceLT,Nat.reduceLeDiff,Nat.reduceEqDiff,Int.reduceToNat,Int.reduceLT,Int.reduceLE,Int.reduceNeg,Int.reduceEq,Int.reduceNe,Int.reduceBEq,Int.reduceBNe,Int.reduceAdd,Int.reduceMul,Int.reduceSub,Int.reduceTDiv,Int.reduceTMod,Nat.reduceBEq,wrap_id,Int.tmod_eq_emod_of_nonneg,Int.tdiv_eq_ediv_of_nonneg,not_false_eq_true,ne_eq,List.length_map,w_1,s_1,t_1])
      | with_reducible intro h
      | ((with_reducible show _ /\ _);apply And.intro))
  all_goals try ((refine rsl ?_;try exact .intro))
  all_goals first | rfl | simp_all | omega
 ·(repeat' first
      | ((with_reducible show Abs.Fin _ _ _ _ _ _);refine Fin.nt results276 [] ?_ ?_ ?_ <;> try trivial)
      | ((first | refine CCallK_pl e280 (c280 ..) rfl rfl ?_ | refine CCallK_pm e280 (c280 ..) rfl rfl ?_ | refine ck e280 (c280 ..) rfl ?_ | refine CCallK_pl e201 (c201 ..) rfl rfl ?_ | refine CCallK_pm e201 (c201 ..) rfl rfl ?_ | refine ck e201 (c201 ..) rfl ?_);simp (maxSteps:=2000000) (disch:=omega) only [go_sem,↓reduceIte,reduceCtorEq,Nat.reduceAdd,Nat.reduceMul,Nat.reduceSub,Nat.reduceLT,Nat.reduceLeDiff,Nat.reduceEqDiff,Int.reduceToNat,Int.reduceLT,Int.reduceLE,Int.reduceNeg,Int.reduceEq,Int.reduceNe,Int.reduceBEq,Int.reduceBNe,Int.reduceAdd,Int.reduceMul,Int.reduceSub,Int.reduceTDiv,Int.reduceTMod,Nat.reduceBEq,wrap_id,Int.tmod_eq_emod_of_nonneg,Int.tdiv_eq_ediv_of_nonneg,not_false_eq_true,ne_eq,List.length_map,w_2,s_2,t_2])
      | with_reducible intro h
      | ((with_reducible show _ /\ _);apply And.intro))
  all_goals try ((refine rsl ?_;try exact .intro))
  all_goals first | rfl | simp_all | omega
 ·(repeat' first
      | ((with_reducible show Abs.Fin _ _ _ _ _ _);refine Fin.nt results276 [] ?_ ?_ ?_ <;> try trivial)
      | ((first | refine CCallK_pl e280 (c280 ..) rfl rfl ?_ | refine CCallK_pm e280 (c280 ..) rfl rfl ?_ | refine ck e280 (c280 ..) rfl ?_ | refine CCallK_pl e201 (c201 ..) rfl rfl ?_ | refine CCallK_pm e201 (c201 ..) rfl rfl ?_ | refine ck e201 (c201 ..) rfl ?_);simp (maxSteps:=2000000) (disch:=omega) only [go_sem,↓reduceIte,reduceCtorEq,Nat.reduceAdd,Nat.reduceMul,Nat.reduceSub,Nat.reduceLT,Nat.reduceLeDiff,Nat.reduceEqDiff,Int.reduceToNat,Int.reduceLT,Int.reduceLE,Int.reduceNeg,Int.reduceEq,Int.reduceNe,Int.reduceBEq,Int.reduceBNe,Int.reduceAdd,Int.reduceMul,Int.reduceSub,Int.reduceTDiv,Int.reduceTMod,Nat.reduceBEq,wrap_id,Int.tmod_eq_emod_of_nonneg,Int.tdiv_eq_ediv_of_nonneg,not_false_eq_true,ne_eq,List.length_map,hw,h1,h2])
      | with_reducible intro h
      | ((with_reducible show _ /\ _);apply And.intro))
  all_goals try ((refine rsl ?_;try exact .intro))
  all_goals first | rfl | simp_all | omega
theorem c281 (c:Int):Ctr prog 281 [.one (.dat (.int .i64 c))] [] (.one (.dat (.int .i64 (strideOf c)))) []:=by
 rcases class_cases c with rfl | rfl | rfl | ⟨hw,h1,h2,h3⟩
 all_goals
  refine Ctr.bd mixed func281 rfl ?_
  refine evw ?_
 ·(repeat' first
      | ((with_reducible show Abs.Fin _ _ _ _ _ _);refine Fin.nt results281 [] ?_ ?_ ?_ <;> try trivial)
      | ((first | refine CCallK_pl e67 (c67 ..) rfl rfl ?_ | refine CCallK_pm e67 (c67 ..) rfl rfl ?_ | refine ck e67 (c67 ..) rfl ?_ | refine CCallK_pl e124 (c124 ..) rfl rfl ?_ | refine CCallK_pm e124 (c124 ..) rfl rfl ?_ | refine ck e124 (c124 ..) rfl ?_);simp (maxSteps:=2000000) (disch:=omega) only [go_sem,↓reduceIte,reduceCtorEq,Nat.reduceAdd,Nat.reduceMul,Nat.reduceSub,Nat.reduceLT,Nat.reduceLeDiff,Nat.reduceEqDiff,Int.reduceToNat,Int.reduceLT,Int.reduceLE,Int.reduceNeg,Int.reduceEq,Int.reduceNe,Int.reduceBEq,Int.reduceBNe,Int.reduceAdd,Int.reduceMul,Int.reduceSub,Int.reduceTDiv,Int.reduceTMod,Nat.reduceBEq,wrap_id,Int.tmod_eq_emod_of_nonneg,Int.tdiv_eq_ediv_of_nonneg,not_false_eq_true,ne_eq,List.length_map,w_0,s_0,t_0])
      | with_reducible intro h
      | ((with_reducible show _ /\ _);apply And.intro))
  all_goals try ((refine rsl ?_;try exact .intro))
  all_goals first | rfl | simp_all | omega
 ·(repeat' first
      | ((with_reducible show Abs.Fin _ _ _ _ _ _);refine Fin.nt results281 [] ?_ ?_ ?_ <;> try trivial)
      | ((first | refine CCallK_pl e67 (c67 ..) rfl rfl ?_ | refine CCallK_pm e67 (c67 ..) rfl rfl ?_ | refine ck e67 (c67 ..) rfl ?_ | refine CCallK_pl e124 (c124 ..) rfl rfl ?_ | refine CCallK_pm e124 (c124 ..) rfl rfl ?_ | refine ck e124 (c124 ..) rfl ?_);simp (maxSteps:=2000000) (disch:=omega) only [go_sem,↓reduceIte,reduceCtorEq,Nat.reduceAdd,Nat.reduceMul,Nat.reduceSub,Nat.reduceLT,Nat.reduceLeDiff,Nat.reduceEqDiff,Int.reduceToNat,Int.reduceLT,Int.reduceLE,Int.reduceNeg,Int.reduceEq,Int.reduceNe,Int.reduceBEq,Int.reduceBNe,Int.reduceAdd,Int.reduceMul,Int.reduceSub,Int.reduceTDiv,Int.reduceTMod,Nat.reduceBEq,wrap_id,Int.tmod_eq_emod_of_nonneg,Int.tdiv_eq_ediv_of_nonneg,not_false_eq_true,ne_eq,List.length_map,w_1,s_1,t_1])
      | with_reducible intro h
      | ((with_reducible show _ /\ _);apply And.intro))
  all_goals try ((refine rsl ?_;try exact .intro))
  all_goals first | rfl | simp_all | omega
 ·(repeat' first
      | ((with_reducible show Abs.Fin _ _ _ _ _ _);refine Fin.nt results281 [] ?_ ?_ ?_ <;> try trivial)
      | ((first | refine CCallK_pl e67 (c67 ..) rfl rfl ?_ | refine CCallK_pm e67 (c67 ..) rfl rfl ?_ | refine ck e67 (c67 ..) rfl ?_ | refine CCallK_pl e124 (c124 ..) rfl rfl ?_ | refine CCallK_pm e124 (c124 ..) rfl rfl ?_ | refine ck e124 (c124 ..) rfl ?_);simp (maxSteps:=2000000) (disch:=omega) only [go_sem,↓reduceIte,reduceCtorEq,Nat.reduceAdd,Nat.reduceMul,Nat.reduceSub,Nat.reduceLT,Nat.reduceLeDiff,Nat.reduceEqDiff,Int.reduceToNat,Int.reduceLT,Int.reduceLE,Int.reduceNeg,Int.reduceEq,Int.reduceNe,Int.reduceBEq,Int.reduceBNe,Int.reduceAdd,Int.reduceMul,Int.reduceSub,Int.reduceTDiv,Int.reduceTMod,Nat.reduceBEq,wrap_id,Int.tmod_eq_emod_of_nonneg,Int.tdiv_eq_ediv_of_nonneg,not_false_eq_true,ne_eq,List.length_map,w_2,s_2,t_2])
      | with_reducible intro h
      | ((with_reducible show _ /\ _);apply And.intro))
  all_goals try ((refine rsl ?_;try exact .intro))
  all_goals first | rfl | simp_all | omega
 ·(repeat' first
      | ((with_reducible show Abs.Fin _ _ _ _ _ _);refine Fin.nt results281 [] ?_ ?_ ?_ <;> try trivial)
      | ((first | refine CCallK_pl e67 (c67 ..) rfl rfl ?_ | refine CCallK_pm e67 (c67 ..) rfl rfl ?_ | refine ck e67 (c67 ..) rfl ?_ | refine CCallK_pl e124 (c124 ..) rfl rfl ?_ | refine CCallK_pm e124 (c124 ..) rfl rfl ?_ | refine ck e124 (c124 ..) rfl ?_);simp (maxSteps:=2000000) (disch:=omega) only [go_sem,↓reduceIte,reduceCtorEq,Nat.reduceAdd,Nat.reduceMul,Nat.reduceSub,Nat.reduceLT,Nat.reduceLeDiff,Nat.reduceEqDiff,Int.reduceToNat,Int.reduceLT,Int.reduceLE,Int.reduceNeg,Int.reduceEq,Int.reduceNe,Int.reduceBEq,Int.reduceBNe,Int.reduceAdd,Int.reduceMul,Int.reduceSub,Int.reduceTDiv,Int.reduceTMod,Nat.reduceBEq,wrap_id,Int.tmod_eq_emod_of_nonneg,Int.tdiv_eq_ediv_of_nonneg,not_false_eq_true,ne_eq,List.length_map,hw,h1,h2])
      | with_reducible intro h
      | ((with_reducible show _ /\ _);apply And.intro))
  all_goals try ((refine rsl ?_;try exact .intro))
  all_goals first | rfl | simp_all | omega
theorem c275 (c:Int):Ctr prog 275 [.one (.dat (.int .i64 c))] [] (.one (.dat (.int .i64 (perPage c)))) []:=by
 rcases class_cases c with rfl | rfl | rfl | ⟨hw,h1,h2,h3⟩
 all_goals
  refine Ctr.bd mixed func275 rfl ?_
  refine evw ?_
 ·(repeat' first
      | ((with_reducible show Abs.Fin _ _ _ _ _ _);refine Fin.nt results275 [] ?_ ?_ ?_ <;> try trivial)
      | ((first | refine CCallK_pl e280 (c280 ..) rfl rfl ?_ | refine CCallK_pm e280 (c280 ..) rfl rfl ?_ | refine ck e280 (c280 ..) rfl ?_ | refine CCallK_pl e276 (c276 ..) rfl rfl ?_ | refine CCallK_pm e276 (c276 ..) rfl rfl ?_ | refine ck e276 (c276 ..) rfl ?_);simp (maxSteps:=2000000) (disch:=omega) only [go_sem,↓reduceIte,reduceCtorEq,Nat.reduceAdd,Nat.reduceMul,Nat.reduceSub,Nat.reduceLT,Nat.reduceLeDiff,Nat.reduceEqDiff,Int.reduceToNat,Int.reduceLT,Int.reduceLE,Int.reduceNeg,Int.reduceEq,Int.reduceNe,Int.reduceBEq,Int.reduceBNe,Int.reduceAdd,Int.reduceMul,Int.reduceSub,Int.reduceTDiv,Int.reduceTMod,Nat.reduceBEq,wrap_id,Int.tmod_eq_emod_of_nonneg,Int.tdiv_eq_ediv_of_nonneg,not_false_eq_true,ne_eq,List.length_map,w_0,t_0,p_0])
      | with_reducible intro h
      | ((with_reducible show _ /\ _);apply And.intro))
  all_goals try ((refine rsl ?_;try exact .intro))
  all_goals first | rfl | simp_all | omega
 ·(repeat' first
      | ((with_reducible show Abs.Fin _ _ _ _ _ _);refine Fin.nt results275 [] ?_ ?_ ?_ <;> try trivial)
      | ((first | refine CCallK_pl e280 (c280 ..) rfl rfl ?_ | refine CCallK_pm e280 (c280 ..) rfl rfl ?_ | refine ck e280 (c280 ..) rfl ?_ | refine CCallK_pl e276 (c276 ..) rfl rfl ?_ | refine CCallK_pm e276 (c276 ..) rfl rfl ?_ | refine ck e276 (c276 ..) rfl ?_);simp (maxSteps:=2000000) (disch:=omega) only [go_sem,↓reduceIte,reduceCtorEq,Nat.reduceAdd,Nat.reduceMul,Nat.reduceSub,Nat.reduceLT,Nat.reduceLeDiff,Nat.reduceEqDiff,Int.reduceToNat,Int.reduceLT,Int.reduceLE,Int.reduceNeg,Int.reduceEq,Int.reduceNe,Int.reduceBEq,Int.reduceBNe,Int.reduceAdd,Int.reduceMul,Int.reduceSub,Int.reduceTDiv,Int.reduceTMod,Nat.reduceBEq,wrap_id,Int.tmod_eq_emod_of_nonneg,Int.tdiv_eq_ediv_of_nonneg,not_false_eq_true,ne_eq,List.length_map,w_1,t_1,p_1])
      | with_reducible intro h
      | ((with_reducible show _ /\ _);apply And.intro))
  all_goals try ((refine rsl ?_;try exact .intro))
  all_goals first | rfl | simp_all | omega
 ·(repeat' first
      | ((with_reducible show Abs.Fin _ _ _ _ _ _);refine Fin.nt results275 [] ?_ ?_ ?_ <;> try trivial)
      | ((first | refine CCallK_pl e280 (c280 ..) rfl rfl ?_ | refine CCallK_pm e280 (c280 ..) rfl rfl ?_ | refine ck e280 (c280 ..) rfl ?_ | refine CCallK_pl e276 (c276 ..) rfl rfl ?_ | refine CCallK_pm e276 (c276 ..) rfl rfl ?_ | refine ck e276 (c276 ..) rfl ?_);simp (maxSteps:=2000000) (disch:=omega) only [go_sem,↓reduceIte,reduceCtorEq,Nat.reduceAdd,Nat.reduceMul,Nat.reduceSub,Nat.reduceLT,Nat.reduceLeDiff,Nat.reduceEqDiff,Int.reduceToNat,Int.reduceLT,Int.reduceLE,Int.reduceNeg,Int.reduceEq,Int.reduceNe,Int.reduceBEq,Int.reduceBNe,Int.reduceAdd,Int.reduceMul,Int.reduceSub,Int.reduceTDiv,Int.reduceTMod,Nat.reduceBEq,wrap_id,Int.tmod_eq_emod_of_nonneg,Int.tdiv_eq_ediv_of_nonneg,not_false_eq_true,ne_eq,List.length_map,w_2,t_2,p_2])
      | with_reducible intro h
      | ((with_reducible show _ /\ _);apply And.intro))
  all_goals try ((refine rsl ?_;try exact .intro))
  all_goals first | rfl | simp_all | omega
 ·(repeat' first
      | ((with_reducible show Abs.Fin _ _ _ _ _ _);refine Fin.nt results275 [] ?_ ?_ ?_ <;> try trivial)
      | ((first | refine CCallK_pl e280 (c280 ..) rfl rfl ?_ | refine CCallK_pm e280 (c280 ..) rfl rfl ?_ | refine ck e280 (c280 ..) rfl ?_ | refine CCallK_pl e276 (c276 ..) rfl rfl ?_ | refine CCallK_pm e276 (c276 ..) rfl rfl ?_ | refine ck e276 (c276 ..) rfl ?_);simp (maxSteps:=2000000) (disch:=omega) only [go_sem,↓reduceIte,reduceCtorEq,Nat.reduceAdd,Nat.reduceMul,Nat.reduceSub,Nat.reduceLT,Nat.reduceLeDiff,Nat.reduceEqDiff,Int.reduceToNat,Int.reduceLT,Int.reduceLE,Int.reduceNeg,Int.reduceEq,Int.reduceNe,Int.reduceBEq,Int.reduceBNe,Int.reduceAdd,Int.reduceMul,Int.reduceSub,Int.reduceTDiv,Int.reduceTMod,Nat.reduceBEq,wrap_id,Int.tmod_eq_emod_of_nonneg,Int.tdiv_eq_ediv_of_nonneg,not_false_eq_true,ne_eq,List.length_map,hw,h2,h3])
      | with_reducible intro h
      | ((with_reducible show _ /\ _);apply And.intro))
  all_goals try ((refine rsl ?_;try exact .intro))
  all_goals first | rfl | simp_all | omega
theorem c209 (c:Int):Ctr prog 209 [.one (.dat (.int .i64 c))] [] (.one (.dat (.int .i64 (perPage c)))) []:=by
 rcases class_cases c with rfl | rfl | rfl | ⟨hw,h1,h2,h3⟩
 all_goals
  refine Ctr.bd mixed func209 rfl ?_
  refine evw ?_
 ·(repeat' first
      | ((with_reducible show Abs.Fin _ _ _ _ _ _);refine Fin.nt results209 [] ?_ ?_ ?_ <;> try trivial)
      | ((first | refine CCallK_pl e67 (c67 ..) rfl rfl ?_ | refine CCallK_pm e67 (c67 ..) rfl rfl ?_ | refine ck e67 (c67 ..) rfl ?_ | refine CCallK_pl e281 (c281 ..) rfl rfl ?_ | refine CCallK_pm e281 (c281 ..) rfl rfl ?_ | refine ck e281 (c281 ..) rfl ?_);simp (maxSteps:=2000000) (disch:=omega) only [go_sem,↓reduceIte,reduceCtorEq,Nat.reduceAdd,Nat.reduceMul,Nat.reduceSub,Nat.reduceLT,Nat.reduceLeDiff,Nat.reduceEqDiff,Int.reduceToNat,Int.reduceLT,Int.reduceLE,Int.reduceNeg,Int.reduceEq,Int.reduceNe,Int.reduceBEq,Int.reduceBNe,Int.reduceAdd,Int.reduceMul,Int.reduceSub,Int.reduceTDiv,Int.reduceTMod,Nat.reduceBEq,wrap_id,Int.tmod_eq_emod_of_nonneg,Int.tdiv_eq_ediv_of_nonneg,not_false_eq_true,ne_eq,List.length_map,w_0,t_0,p_0])
      | with_reducible intro h
      | ((with_reducible show _ /\ _);apply And.intro))
  all_goals try ((refine rsl ?_;try exact .intro))
  all_goals first | rfl | simp_all | omega
 ·(repeat' first
      | ((with_reducible show Abs.Fin _ _ _ _ _ _);refine Fin.nt results209 [] ?_ ?_ ?_ <;> try trivial)
      | ((first | refine CCallK_pl e67 (c67 ..) rfl rfl ?_ | refine CCallK_pm e67 (c67 ..) rfl rfl ?_ | refine ck e67 (c67 ..) rfl ?_ | refine CCallK_pl e281 (c281 ..) rfl rfl ?_ | refine CCallK_pm e281 (c281 ..) rfl rfl ?_ | refine ck e281 (c281 ..) rfl ?_);simp (maxSteps:=2000000) (disch:=omega) only [go_sem,↓reduceIte,reduceCtorEq,Nat.reduceAdd,Nat.reduceMul,Nat.reduceSub,Nat.reduceLT,Nat.reduceLeDiff,Nat.reduceEqDiff,Int.reduceToNat,Int.reduceLT,Int.reduceLE,Int.reduceNeg,Int.reduceEq,Int.reduceNe,Int.reduceBEq,Int.reduceBNe,Int.reduceAdd,Int.reduceMul,Int.reduceSub,Int.reduceTDiv,Int.reduceTMod,Nat.reduceBEq,wrap_id,Int.tmod_eq_emod_of_nonneg,Int.tdiv_eq_ediv_of_nonneg,not_false_eq_true,ne_eq,List.length_map,w_1,t_1,p_1])
      | with_reducible intro h
      | ((with_reducible show _ /\ _);apply And.intro))
  all_goals try ((refine rsl ?_;try exact .intro))
  all_goals first | rfl | simp_all | omega
 ·(repeat' first
      | ((with_reducible show Abs.Fin _ _ _ _ _ _);refine Fin.nt results209 [] ?_ ?_ ?_ <;> try trivial)
      | ((first | refine CCallK_pl e67 (c67 ..) rfl rfl ?_ | refine CCallK_pm e67 (c67 ..) rfl rfl ?_ | refine ck e67 (c67 ..) rfl ?_ | refine CCallK_pl e281 (c281 ..) rfl rfl ?_ | refine CCallK_pm e281 (c281 ..) rfl rfl ?_ | refine ck e281 (c281 ..) rfl ?_);simp (maxSteps:=2000000) (disch:=omega) only [go_sem,↓reduceIte,reduceCtorEq,Nat.reduceAdd,Nat.reduceMul,Nat.reduceSub,Nat.reduceLT,Nat.reduceLeDiff,Nat.reduceEqDiff,Int.reduceToNat,Int.reduceLT,Int.reduceLE,Int.reduceNeg,Int.reduceEq,Int.reduceNe,Int.reduceBEq,Int.reduceBNe,Int.reduceAdd,Int.reduceMul,Int.reduceSub,Int.reduceTDiv,Int.reduceTMod,Nat.reduceBEq,wrap_id,Int.tmod_eq_emod_of_nonneg,Int.tdiv_eq_ediv_of_nonneg,not_false_eq_true,ne_eq,List.length_map,w_2,t_2,p_2])
      | with_reducible intro h
      | ((with_reducible show _ /\ _);apply And.intro))
  all_goals try ((refine rsl ?_;try exact .intro))
  all_goals first | rfl | simp_all | omega
 ·(repeat' first
      | ((with_reducible show Abs.Fin _ _ _ _ _ _);refine Fin.nt results209 [] ?_ ?_ ?_ <;> try trivial)
      | ((first | refine CCallK_pl e67 (c67 ..) rfl rfl ?_ | refine CCallK_pm e67 (c67 ..) rfl rfl ?_ | refine ck e67 (c67 ..) rfl ?_ | refine CCallK_pl e281 (c281 ..) rfl rfl ?_ | refine CCallK_pm e281 (c281 ..) rfl rfl ?_ | refine ck e281 (c281 ..) rfl ?_);simp (maxSteps:=2000000) (disch:=omega) only [go_sem,↓reduceIte,reduceCtorEq,Nat.reduceAdd,Nat.reduceMul,Nat.reduceSub,Nat.reduceLT,Nat.reduceLeDiff,Nat.reduceEqDiff,Int.reduceToNat,Int.reduceLT,Int.reduceLE,Int.reduceNeg,Int.reduceEq,Int.reduceNe,Int.reduceBEq,Int.reduceBNe,Int.reduceAdd,Int.reduceMul,Int.reduceSub,Int.reduceTDiv,Int.reduceTMod,Nat.reduceBEq,wrap_id,Int.tmod_eq_emod_of_nonneg,Int.tdiv_eq_ediv_of_nonneg,not_false_eq_true,ne_eq,List.length_map,hw,h2,h3])
      | with_reducible intro h
      | ((with_reducible show _ /\ _);apply And.intro))
  all_goals try ((refine rsl ?_;try exact .intro))
  all_goals first | rfl | simp_all | omega
def pageOf (s:Int):Int:=if 0 <= s /\ s <= 23 then s / 4 else -1
def indexOf (s:Int):Int:=if 0 <= s /\ s <= 23 then s % 4 else -1
def slotAt (p i:Int):Int:=if 0 <= p /\ p <= 5 /\ 0 <= i /\ i <= 3 then p * 4 + i else -1
theorem slot_cases (s:Int):(0 <= s /\ s <= 23 /\ within s 0 23=true) \/ (¬ (0 <= s /\ s <= 23) /\ within s 0 23=false):=by
 by_cases h:0 <= s /\ s <= 23
 ·exact .inl ⟨h.1,h.2,by simp [within];omega⟩
 ·exact .inr ⟨h,by simp [within];omega⟩
theorem c207 (s:Int):Ctr prog 207 [.one (.dat (.int .i64 s))] [] (.one (.dat (.int .i64 (pageOf s)))) []:=by
 rcases slot_cases s with ⟨h1,h2,hw⟩ | ⟨h1,hw⟩
 all_goals
  refine Ctr.bd mixed func207 rfl ?_
  refine evw ?_
  (repeat' first
      | ((with_reducible show Abs.Fin _ _ _ _ _ _);refine Fin.nt results207 [] ?_ ?_ ?_ <;> try trivial)
      | ((first | refine CCallK_pl e67 (c67 ..) rfl rfl ?_ | refine CCallK_pm e67 (c67 ..) rfl rfl ?_ | refine ck e67 (c67 ..) rfl ?_);simp (maxSteps:=2000000) (disch:=omega) only [go_sem,↓reduceIte,reduceCtorEq,Nat.reduceAdd,Nat.reduceMul,Nat.reduceSub,Nat.reduceLT,Nat.reduceLeDiff,Nat.reduceEqDiff,Int.reduceToNat,Int.reduceLT,Int.reduceLE,Int.reduceNeg,Int.reduceEq,Int.reduceNe,Int.reduceBEq,Int.reduceBNe,Int.reduceAdd,Int.reduceMul,Int.reduceSub,Int.reduceTDiv,Int.reduceTMod,Nat.reduceBEq,wrap_id,Int.tmod_eq_emod_of_nonneg,Int.tdiv_eq_ediv_of_nonneg,not_false_eq_true,ne_eq,List.length_map,hw])
      | with_reducible intro h
      | ((with_reducible show _ /\ _);apply And.intro))
  all_goals try ((refine rsl ?_;try exact .intro))
  all_goals first | rfl | (unfold pageOf;split <;> first | rfl | omega) | (simp_all [pageOf];done) | omega
theorem c208 (s:Int):Ctr prog 208 [.one (.dat (.int .i64 s))] [] (.one (.dat (.int .i64 (indexOf s)))) []:=by
 rcases slot_cases s with ⟨h1,h2,hw⟩ | ⟨h1,hw⟩
 all_goals
  refine Ctr.bd mixed func208 rfl ?_
  refine evw ?_
  (repeat' first
      | ((with_reducible show Abs.Fin _ _ _ _ _ _);refine Fin.nt results208 [] ?_ ?_ ?_ <;> try trivial)
      | ((first | refine CCallK_pl e67 (c67 ..) rfl rfl ?_ | refine CCallK_pm e67 (c67 ..) rfl rfl ?_ | refine ck e67 (c67 ..) rfl ?_);simp (maxSteps:=2000000) (disch:=omega) only [go_sem,↓reduceIte,reduceCtorEq,Nat.reduceAdd,Nat.reduceMul,Nat.reduceSub,Nat.reduceLT,Nat.reduceLeDiff,Nat.reduceEqDiff,Int.reduceToNat,Int.reduceLT,Int.reduceLE,Int.reduceNeg,Int.reduceEq,Int.reduceNe,Int.reduceBEq,Int.reduceBNe,Int.reduceAdd,Int.reduceMul,Int.reduceSub,Int.reduceTDiv,Int.reduceTMod,Nat.reduceBEq,wrap_id,Int.tmod_eq_emod_of_nonneg,Int.tdiv_eq_ediv_of_nonneg,not_false_eq_true,ne_eq,List.length_map,hw])
      | with_reducible intro h
      | ((with_reducible show _ /\ _);apply And.intro))
  all_goals try ((refine rsl ?_;try exact .intro))
  all_goals first | rfl | (unfold indexOf;split <;> first | rfl | omega) | (simp_all [indexOf];done) | omega
theorem c211 (p i:Int) (hp:0 <= p /\ p <= 5) (hi:0 <= i /\ i <= 3):Ctr prog 211 [.one (.dat (.int .i64 p)),.one (.dat (.int .i64 i))] [] (.one (.dat (.int .i64 (p * 4 + i)))) []:=by
 have w1:within p 0 5=true:=by simp [within];omega
 have w2:within i 0 3=true:=by simp [within];omega
 refine Ctr.bd mixed func211 rfl ?_
 refine evw ?_
 (repeat' first
      | ((with_reducible show Abs.Fin _ _ _ _ _ _);refine Fin.nt results211 [] ?_ ?_ ?_ <;> try trivial)
      | ((first | refine CCallK_pl e67 (c67 ..) rfl rfl ?_ | refine CCallK_pm e67 (c67 ..) rfl rfl ?_ | refine ck e67 (c67 ..) rfl ?_);simp (maxSteps:=2000000) (disch:=omega) only [go_sem,↓reduceIte,reduceCtorEq,Nat.reduceAdd,Nat.reduceMul,Nat.reduceSub,Nat.reduceLT,Nat.reduceLeDiff,Nat.reduceEqDiff,Int.reduceToNat,Int.reduceLT,Int.reduceLE,Int.reduceNeg,Int.reduceEq,Int.reduceNe,Int.reduceBEq,Int.reduceBNe,Int.reduceAdd,Int.reduceMul,Int.reduceSub,Int.reduceTDiv,Int.reduceTMod,Nat.reduceBEq,wrap_id,Int.tmod_eq_emod_of_nonneg,Int.tdiv_eq_ediv_of_nonneg,not_false_eq_true,ne_eq,List.length_map,w1,w2])
      | with_reducible intro h
      | ((with_reducible show _ /\ _);apply And.intro))
 all_goals try ((refine rsl ?_;try exact .intro))
 all_goals first | rfl | (simp_all;done) | omega
theorem c202 (s c:Int):Ctr prog 202 [.one (.dat (.int .i64 s)),.one (.dat (.int .i64 c))] [] (.one (.dat (.int .i64 (genAt s c)))) []:=by
 rcases slot_cases s with ⟨h1,h2,hw⟩ | ⟨h1,hw⟩
 ·rcases class_cases c with rfl | rfl | rfl | ⟨hv,g1,g2,g3⟩
  all_goals
   refine Ctr.bd mixed func202 rfl ?_
   refine evw ?_
  ·(repeat' first
      | ((with_reducible show Abs.Fin _ _ _ _ _ _);refine Fin.nt results202 [] ?_ ?_ ?_ <;> try trivial)
      | ((first | refine CCallK_pl e198 (c198 ..) rfl rfl ?_ | refine CCallK_pm e198 (c198 ..) rfl rfl ?_ | refine ck e198 (c198 ..) rfl ?_ | refine CCallK_pl e280 (c280 ..) rfl rfl ?_ | refine CCallK_pm e280 (c280 ..) rfl rfl ?_ | refine ck e280 (c280 ..) rfl ?_ | refine CCallK_pl e275 (c275 ..) rfl rfl ?_ | refine CCallK_pm e275 (c275 ..) rfl rfl ?_ | refine ck e275 (c275 ..) rfl ?_ | refine CCallK_pl e276 (c276 ..) rfl rfl ?_ | refine CCallK_pm e276 (c276 ..) rfl rfl ?_ | refine ck e276 (c276 ..) rfl ?_);simp (maxSteps:=2000000) (disch:=omega) only [go_sem,↓reduceIte,reduceCtorEq,Nat.reduceAdd,Nat.reduceMul,Nat.reduceSub,Nat.reduceLT,Nat.reduceLeDiff,Nat.reduceEqDiff,Int.reduceToNat,Int.reduceLT,Int.reduceLE,Int.reduceNeg,Int.reduceEq,Int.reduceNe,Int.reduceBEq,Int.reduceBNe,Int.reduceAdd,Int.reduceMul,Int.reduceSub,Int.reduceTDiv,Int.reduceTMod,Nat.reduceBEq,wrap_id,Int.tmod_eq_emod_of_nonneg,Int.tdiv_eq_ediv_of_nonneg,not_false_eq_true,ne_eq,List.length_map,hw,w_0,p_0,t_0])
      | with_reducible intro h
      | ((with_reducible show _ /\ _);apply And.intro))
   all_goals try ((refine rsl ?_;try exact .intro))
   all_goals try rfl
   all_goals simp only [decide_eq_true_eq,decide_eq_false_iff_not] at h
   ·exact (genAt_neg (by rw [p_0];omega)).symm
   ·rw [genAt_pos h1 h2 (by rw [p_0];omega),t_0]
  ·(repeat' first
      | ((with_reducible show Abs.Fin _ _ _ _ _ _);refine Fin.nt results202 [] ?_ ?_ ?_ <;> try trivial)
      | ((first | refine CCallK_pl e198 (c198 ..) rfl rfl ?_ | refine CCallK_pm e198 (c198 ..) rfl rfl ?_ | refine ck e198 (c198 ..) rfl ?_ | refine CCallK_pl e280 (c280 ..) rfl rfl ?_ | refine CCallK_pm e280 (c280 ..) rfl rfl ?_ | refine ck e280 (c280 ..) rfl ?_ | refine CCallK_pl e275 (c275 ..) rfl rfl ?_ | refine CCallK_pm e275 (c275 ..) rfl rfl ?_ | refine ck e275 (c275 ..) rfl ?_ | refine CCallK_pl e276 (c276 ..) rfl rfl ?_ | refine CCallK_pm e276 (c276 ..) rfl rfl ?_ | refine ck e276 (c276 ..) rfl ?_);simp (maxSteps:=2000000) (disch:=omega) only [go_sem,↓reduceIte,reduceCtorEq,Nat.reduceAdd,Nat.reduceMul,Nat.reduceSub,Nat.reduceLT,Nat.reduceLeDiff,Nat.reduceEqDiff,Int.reduceToNat,Int.reduceLT,Int.reduceLE,Int.reduceNeg,Int.reduceEq,Int.reduceNe,Int.reduceBEq,Int.reduceBNe,Int.reduceAdd,Int.reduceMul,Int.reduceSub,Int.reduceTDiv,Int.reduceTMod,Nat.reduceBEq,wrap_id,Int.tmod_eq_emod_of_nonneg,Int.tdiv_eq_ediv_of_nonneg,not_false_eq_true,ne_eq,List.length_map,hw,w_1,p_1,t_1])
      | with_reducible intro h
      | ((with_reducible show _ /\ _);apply And.intro))
   all_goals try ((refine rsl ?_;try exact .intro))
   all_goals try rfl
   all_goals simp only [decide_eq_true_eq,decide_eq_false_iff_not] at h
   ·exact (genAt_neg (by rw [p_1];omega)).symm
   ·rw [genAt_pos h1 h2 (by rw [p_1];omega),t_1]
  ·(repeat' first
      | ((with_reducible show Abs.Fin _ _ _ _ _ _);refine Fin.nt results202 [] ?_ ?_ ?_ <;> try trivial)
      | ((first | refine CCallK_pl e198 (c198 ..) rfl rfl ?_ | refine CCallK_pm e198 (c198 ..) rfl rfl ?_ | refine ck e198 (c198 ..) rfl ?_ | refine CCallK_pl e280 (c280 ..) rfl rfl ?_ | refine CCallK_pm e280 (c280 ..) rfl rfl ?_ | refine ck e280 (c280 ..) rfl ?_ | refine CCallK_pl e275 (c275 ..) rfl rfl ?_ | refine CCallK_pm e275 (c275 ..) rfl rfl ?_ | refine ck e275 (c275 ..) rfl ?_ | refine CCallK_pl e276 (c276 ..) rfl rfl ?_ | refine CCallK_pm e276 (c276 ..) rfl rfl ?_ | refine ck e276 (c276 ..) rfl ?_);simp (maxSteps:=2000000) (disch:=omega) only [go_sem,↓reduceIte,reduceCtorEq,Nat.reduceAdd,Nat.reduceMul,Nat.reduceSub,Nat.reduceLT,Nat.reduceLeDiff,Nat.reduceEqDiff,Int.reduceToNat,Int.reduceLT,Int.reduceLE,Int.reduceNeg,Int.reduceEq,Int.reduceNe,Int.reduceBEq,Int.reduceBNe,Int.reduceAdd,Int.reduceMul,Int.reduceSub,Int.reduceTDiv,Int.reduceTMod,Nat.reduceBEq,wrap_id,Int.tmod_eq_emod_of_nonneg,Int.tdiv_eq_ediv_of_nonneg,not_false_eq_true,ne_eq,List.length_map,hw,w_2,p_2,t_2])
      | with_reducible intro h
      | ((with_reducible show _ /\ _);apply And.intro))
   all_goals try ((refine rsl ?_;try exact .intro))
   all_goals try rfl
   all_goals simp only [decide_eq_true_eq,decide_eq_false_iff_not] at h
   ·exact (genAt_neg (by rw [p_2];omega)).symm
   ·rw [genAt_pos h1 h2 (by rw [p_2];omega),t_2]
  ·(repeat' first
      | ((with_reducible show Abs.Fin _ _ _ _ _ _);refine Fin.nt results202 [] ?_ ?_ ?_ <;> try trivial)
      | ((first | refine CCallK_pl e198 (c198 ..) rfl rfl ?_ | refine CCallK_pm e198 (c198 ..) rfl rfl ?_ | refine ck e198 (c198 ..) rfl ?_ | refine CCallK_pl e280 (c280 ..) rfl rfl ?_ | refine CCallK_pm e280 (c280 ..) rfl rfl ?_ | refine ck e280 (c280 ..) rfl ?_ | refine CCallK_pl e275 (c275 ..) rfl rfl ?_ | refine CCallK_pm e275 (c275 ..) rfl rfl ?_ | refine ck e275 (c275 ..) rfl ?_ | refine CCallK_pl e276 (c276 ..) rfl rfl ?_ | refine CCallK_pm e276 (c276 ..) rfl rfl ?_ | refine ck e276 (c276 ..) rfl ?_);simp (maxSteps:=2000000) (disch:=omega) only [go_sem,↓reduceIte,reduceCtorEq,Nat.reduceAdd,Nat.reduceMul,Nat.reduceSub,Nat.reduceLT,Nat.reduceLeDiff,Nat.reduceEqDiff,Int.reduceToNat,Int.reduceLT,Int.reduceLE,Int.reduceNeg,Int.reduceEq,Int.reduceNe,Int.reduceBEq,Int.reduceBNe,Int.reduceAdd,Int.reduceMul,Int.reduceSub,Int.reduceTDiv,Int.reduceTMod,Nat.reduceBEq,wrap_id,Int.tmod_eq_emod_of_nonneg,Int.tdiv_eq_ediv_of_nonneg,not_false_eq_true,ne_eq,List.length_map,hw,hv,g2,g3])
      | with_reducible intro h
      | ((with_reducible show _ /\ _);apply And.intro))
   all_goals try ((refine rsl ?_;try exact .intro))
   all_goals first | rfl | (simp_all [genAt];omega) | (simp_all [genAt];done) | omega
 ·refine Ctr.bd mixed func202 rfl ?_
  refine evw ?_
  (repeat' first
      | ((with_reducible show Abs.Fin _ _ _ _ _ _);refine Fin.nt results202 [] ?_ ?_ ?_ <;> try trivial)
      | ((first | refine CCallK_pl e198 (c198 ..) rfl rfl ?_ | refine CCallK_pm e198 (c198 ..) rfl rfl ?_ | refine ck e198 (c198 ..) rfl ?_ | refine CCallK_pl e280 (c280 ..) rfl rfl ?_ | refine CCallK_pm e280 (c280 ..) rfl rfl ?_ | refine ck e280 (c280 ..) rfl ?_ | refine CCallK_pl e275 (c275 ..) rfl rfl ?_ | refine CCallK_pm e275 (c275 ..) rfl rfl ?_ | refine ck e275 (c275 ..) rfl ?_ | refine CCallK_pl e276 (c276 ..) rfl rfl ?_ | refine CCallK_pm e276 (c276 ..) rfl rfl ?_ | refine ck e276 (c276 ..) rfl ?_);simp (maxSteps:=2000000) (disch:=omega) only [go_sem,↓reduceIte,reduceCtorEq,Nat.reduceAdd,Nat.reduceMul,Nat.reduceSub,Nat.reduceLT,Nat.reduceLeDiff,Nat.reduceEqDiff,Int.reduceToNat,Int.reduceLT,Int.reduceLE,Int.reduceNeg,Int.reduceEq,Int.reduceNe,Int.reduceBEq,Int.reduceBNe,Int.reduceAdd,Int.reduceMul,Int.reduceSub,Int.reduceTDiv,Int.reduceTMod,Nat.reduceBEq,wrap_id,Int.tmod_eq_emod_of_nonneg,Int.tdiv_eq_ediv_of_nonneg,not_false_eq_true,ne_eq,List.length_map,hw])
      | with_reducible intro h
      | ((with_reducible show _ /\ _);apply And.intro))
  all_goals try ((refine rsl ?_;try exact .intro))
  all_goals first | rfl | (simp_all [genAt];done) | (simp_all [genAt];omega) | omega
theorem c206 (s c:Int):Ctr prog 206 [.one (.dat (.int .i64 s)),.one (.dat (.int .i64 c))] [] (.one (.dat (.int .i64 (genAt s c)))) []:=by
 have hp:=perPage_le c
 have ht:=stride_le c
 rcases slot_cases s with ⟨h1,h2,hw⟩ | ⟨h1,hw⟩
 ·have e1:pageOf s=s / 4:=by simp [pageOf,h1,h2]
  have e2:indexOf s=s % 4:=by simp [indexOf,h1,h2]
  have hb:0 <= s % 4 * strideOf c /\ s % 4 * strideOf c <= 132:=by
   rcases class_cases c with rfl | rfl | rfl | ⟨_,_,e,_⟩
   ·rw [t_0];omega
   ·rw [t_1];omega
   ·rw [t_2];omega
   ·rw [e];omega
  refine Ctr.bd mixed func206 rfl ?_
  refine evw ?_
  (repeat' first
      | ((with_reducible show Abs.Fin _ _ _ _ _ _);refine Fin.nt results206 [] ?_ ?_ ?_ <;> try trivial)
      | ((first | refine CCallK_pl e207 (c207 ..) rfl rfl ?_ | refine CCallK_pm e207 (c207 ..) rfl rfl ?_ | refine ck e207 (c207 ..) rfl ?_ | refine CCallK_pl e208 (c208 ..) rfl rfl ?_ | refine CCallK_pm e208 (c208 ..) rfl rfl ?_ | refine ck e208 (c208 ..) rfl ?_ | refine CCallK_pl e67 (c67 ..) rfl rfl ?_ | refine CCallK_pm e67 (c67 ..) rfl rfl ?_ | refine ck e67 (c67 ..) rfl ?_ | refine CCallK_pl e209 (c209 ..) rfl rfl ?_ | refine CCallK_pm e209 (c209 ..) rfl rfl ?_ | refine ck e209 (c209 ..) rfl ?_ | refine CCallK_pl e281 (c281 ..) rfl rfl ?_ | refine CCallK_pm e281 (c281 ..) rfl rfl ?_ | refine ck e281 (c281 ..) rfl ?_);simp (maxSteps:=2000000) (disch:=omega) only [go_sem,↓reduceIte,reduceCtorEq,Nat.reduceAdd,Nat.reduceMul,Nat.reduceSub,Nat.reduceLT,Nat.reduceLeDiff,Nat.reduceEqDiff,Int.reduceToNat,Int.reduceLT,Int.reduceLE,Int.reduceNeg,Int.reduceEq,Int.reduceNe,Int.reduceBEq,Int.reduceBNe,Int.reduceAdd,Int.reduceMul,Int.reduceSub,Int.reduceTDiv,Int.reduceTMod,Nat.reduceBEq,wrap_id,Int.tmod_eq_emod_of_nonneg,Int.tdiv_eq_ediv_of_nonneg,not_false_eq_true,ne_eq,List.length_map,e1,e2])
      | with_reducible intro h
      | ((with_reducible show _ /\ _);apply And.intro))
  all_goals try ((refine rsl ?_;try exact .intro))
  all_goals first | rfl | omega | (simp_all [genAt,within];done) | (simp_all [genAt,within];omega)
 ·have e1:pageOf s=-1:=by simp only [pageOf,if_neg h1]
  refine Ctr.bd mixed func206 rfl ?_
  refine evw ?_
  (repeat' first
      | ((with_reducible show Abs.Fin _ _ _ _ _ _);refine Fin.nt results206 [] ?_ ?_ ?_ <;> try trivial)
      | ((first | refine CCallK_pl e207 (c207 ..) rfl rfl ?_ | refine CCallK_pm e207 (c207 ..) rfl rfl ?_ | refine ck e207 (c207 ..) rfl ?_ | refine CCallK_pl e208 (c208 ..) rfl rfl ?_ | refine CCallK_pm e208 (c208 ..) rfl rfl ?_ | refine ck e208 (c208 ..) rfl ?_ | refine CCallK_pl e67 (c67 ..) rfl rfl ?_ | refine CCallK_pm e67 (c67 ..) rfl rfl ?_ | refine ck e67 (c67 ..) rfl ?_ | refine CCallK_pl e209 (c209 ..) rfl rfl ?_ | refine CCallK_pm e209 (c209 ..) rfl rfl ?_ | refine ck e209 (c209 ..) rfl ?_ | refine CCallK_pl e281 (c281 ..) rfl rfl ?_ | refine CCallK_pm e281 (c281 ..) rfl rfl ?_ | refine ck e281 (c281 ..) rfl ?_);simp (maxSteps:=2000000) (disch:=omega) only [go_sem,↓reduceIte,reduceCtorEq,Nat.reduceAdd,Nat.reduceMul,Nat.reduceSub,Nat.reduceLT,Nat.reduceLeDiff,Nat.reduceEqDiff,Int.reduceToNat,Int.reduceLT,Int.reduceLE,Int.reduceNeg,Int.reduceEq,Int.reduceNe,Int.reduceBEq,Int.reduceBNe,Int.reduceAdd,Int.reduceMul,Int.reduceSub,Int.reduceTDiv,Int.reduceTMod,Nat.reduceBEq,wrap_id,Int.tmod_eq_emod_of_nonneg,Int.tdiv_eq_ediv_of_nonneg,not_false_eq_true,ne_eq,List.length_map,e1])
      | with_reducible intro h
      | ((with_reducible show _ /\ _);apply And.intro))
  all_goals try ((refine rsl ?_;try exact .intro))
  all_goals first | rfl | omega | (simp_all [genAt];done) | (simp_all [genAt];omega)
theorem c113 (s c:Int):Ctr prog 113 [.one (.dat (.int .i64 s)),.one (.dat (.int .i64 c))] [] (.one (.dat (.int .i64 (startOf s c)))) []:=by
 have hb:genAt s c < 0 \/ (0 <= genAt s c /\ genAt s c <= 400):=by
  by_cases h:0 <= genAt s c
  ·have:=genAt_bound h
   have hs:0 <= sizeOf c:=by unfold sizeOf;repeat' split <;> omega
   exact .inr ⟨h,by omega⟩
  ·exact .inl (by omega)
 refine Ctr.bd mixed func113 rfl ?_
 refine evw ?_
 refine CallK_pure e202 (c202 s c) rfl ?_
 rcases hb with hb | hb
 all_goals
  refine evw ?_
  (repeat' first
      | ((with_reducible show Abs.Fin _ _ _ _ _ _);refine Fin.nt results113 [] ?_ ?_ ?_ <;> try trivial)
      | with_reducible intro h
      | ((with_reducible show _ /\ _);apply And.intro))
  all_goals try ((refine rsl ?_;try exact .intro))
  all_goals first | rfl | (simp_all [startOf];done) | (simp_all [startOf];omega) | omega
theorem c125 (s c:Int):Ctr prog 125 [.one (.dat (.int .i64 s)),.one (.dat (.int .i64 c))] [] (.one (.dat (.int .i64 (startOf s c)))) []:=by
 have hb:genAt s c < 0 \/ (0 <= genAt s c /\ genAt s c <= 400):=by
  by_cases h:0 <= genAt s c
  ·have:=genAt_bound h
   have hs:0 <= sizeOf c:=by unfold sizeOf;repeat' split <;> omega
   exact .inr ⟨h,by omega⟩
  ·exact .inl (by omega)
 refine Ctr.bd mixed func125 rfl ?_
 refine evw ?_
 refine CallK_pure e206 (c206 s c) rfl ?_
 rcases hb with hb | hb
 all_goals
  refine evw ?_
  (repeat' first
      | ((with_reducible show Abs.Fin _ _ _ _ _ _);refine Fin.nt results125 [] ?_ ?_ ?_ <;> try trivial)
      | with_reducible intro h
      | ((with_reducible show _ /\ _);apply And.intro))
  all_goals try ((refine rsl ?_;try exact .intro))
  all_goals first | rfl | (simp_all [startOf];done) | (simp_all [startOf];omega) | omega
def handleSlot (h:Int):Int:=if handleOk h=true then h % 32 else -1
def handleGen (h:Int):Int:=if handleOk h=true then h / 32 else 0
theorem handleOk_iff (h:Int):handleOk h=true ↔ 32 <= h /\ h <= 223 /\ h % 32 < 24:=by simp [handleOk,within];omega
theorem c120 (h:Int):Ctr prog 120 [.one (.dat (.int .i64 h))] [] (.one (.dat (.int .i64 (handleSlot h)))) []:=by
 rcases Bool.eq_false_or_eq_true (handleOk h) with hh | hh
 ·have hb:=(handleOk_iff h).1 hh
  refine Ctr.bd mixed func120 rfl ?_
  refine evw ?_
  (repeat' first
      | ((with_reducible show Abs.Fin _ _ _ _ _ _);refine Fin.nt results120 [] ?_ ?_ ?_ <;> try trivial)
      | ((first | refine CCallK_pl e118 (c118 ..) rfl rfl ?_ | refine CCallK_pm e118 (c118 ..) rfl rfl ?_ | refine ck e118 (c118 ..) rfl ?_);simp (maxSteps:=2000000) (disch:=omega) only [go_sem,↓reduceIte,reduceCtorEq,Nat.reduceAdd,Nat.reduceMul,Nat.reduceSub,Nat.reduceLT,Nat.reduceLeDiff,Nat.reduceEqDiff,Int.reduceToNat,Int.reduceLT,Int.reduceLE,Int.reduceNeg,Int.reduceEq,Int.reduceNe,Int.reduceBEq,Int.reduceBNe,Int.reduceAdd,Int.reduceMul,Int.reduceSub,Int.reduceTDiv,Int.reduceTMod,Nat.reduceBEq,wrap_id,Int.tmod_eq_emod_of_nonneg,Int.tdiv_eq_ediv_of_nonneg,not_false_eq_true,ne_eq,List.length_map,hh])
      | with_reducible intro h
      | ((with_reducible show _ /\ _);apply And.intro))
  all_goals try ((refine rsl ?_;try exact .intro))
  all_goals first | rfl | (simp_all [handleSlot];done) | omega
 ·refine Ctr.bd mixed func120 rfl ?_
  refine evw ?_
  (repeat' first
      | ((with_reducible show Abs.Fin _ _ _ _ _ _);refine Fin.nt results120 [] ?_ ?_ ?_ <;> try trivial)
      | ((first | refine CCallK_pl e118 (c118 ..) rfl rfl ?_ | refine CCallK_pm e118 (c118 ..) rfl rfl ?_ | refine ck e118 (c118 ..) rfl ?_);simp (maxSteps:=2000000) (disch:=omega) only [go_sem,↓reduceIte,reduceCtorEq,Nat.reduceAdd,Nat.reduceMul,Nat.reduceSub,Nat.reduceLT,Nat.reduceLeDiff,Nat.reduceEqDiff,Int.reduceToNat,Int.reduceLT,Int.reduceLE,Int.reduceNeg,Int.reduceEq,Int.reduceNe,Int.reduceBEq,Int.reduceBNe,Int.reduceAdd,Int.reduceMul,Int.reduceSub,Int.reduceTDiv,Int.reduceTMod,Nat.reduceBEq,wrap_id,Int.tmod_eq_emod_of_nonneg,Int.tdiv_eq_ediv_of_nonneg,not_false_eq_true,ne_eq,List.length_map,hh])
      | with_reducible intro h
      | ((with_reducible show _ /\ _);apply And.intro))
  all_goals try ((refine rsl ?_;try exact .intro))
  all_goals first | rfl | (simp_all [handleSlot];done) | omega
theorem c122 (h:Int):Ctr prog 122 [.one (.dat (.int .i64 h))] [] (.one (.dat (.int .i64 (handleGen h)))) []:=by
 rcases Bool.eq_false_or_eq_true (handleOk h) with hh | hh
 ·have hb:=(handleOk_iff h).1 hh
  refine Ctr.bd mixed func122 rfl ?_
  refine evw ?_
  (repeat' first
      | ((with_reducible show Abs.Fin _ _ _ _ _ _);refine Fin.nt results122 [] ?_ ?_ ?_ <;> try trivial)
      | ((first | refine CCallK_pl e118 (c118 ..) rfl rfl ?_ | refine CCallK_pm e118 (c118 ..) rfl rfl ?_ | refine ck e118 (c118 ..) rfl ?_);simp (maxSteps:=2000000) (disch:=omega) only [go_sem,↓reduceIte,reduceCtorEq,Nat.reduceAdd,Nat.reduceMul,Nat.reduceSub,Nat.reduceLT,Nat.reduceLeDiff,Nat.reduceEqDiff,Int.reduceToNat,Int.reduceLT,Int.reduceLE,Int.reduceNeg,Int.reduceEq,Int.reduceNe,Int.reduceBEq,Int.reduceBNe,Int.reduceAdd,Int.reduceMul,Int.reduceSub,Int.reduceTDiv,Int.reduceTMod,Nat.reduceBEq,wrap_id,Int.tmod_eq_emod_of_nonneg,Int.tdiv_eq_ediv_of_nonneg,not_false_eq_true,ne_eq,List.length_map,hh])
      | with_reducible intro h
      | ((with_reducible show _ /\ _);apply And.intro))
  all_goals try ((refine rsl ?_;try exact .intro))
  all_goals first | rfl | (simp_all [handleGen];done) | omega
 ·refine Ctr.bd mixed func122 rfl ?_
  refine evw ?_
  (repeat' first
      | ((with_reducible show Abs.Fin _ _ _ _ _ _);refine Fin.nt results122 [] ?_ ?_ ?_ <;> try trivial)
      | ((first | refine CCallK_pl e118 (c118 ..) rfl rfl ?_ | refine CCallK_pm e118 (c118 ..) rfl rfl ?_ | refine ck e118 (c118 ..) rfl ?_);simp (maxSteps:=2000000) (disch:=omega) only [go_sem,↓reduceIte,reduceCtorEq,Nat.reduceAdd,Nat.reduceMul,Nat.reduceSub,Nat.reduceLT,Nat.reduceLeDiff,Nat.reduceEqDiff,Int.reduceToNat,Int.reduceLT,Int.reduceLE,Int.reduceNeg,Int.reduceEq,Int.reduceNe,Int.reduceBEq,Int.reduceBNe,Int.reduceAdd,Int.reduceMul,Int.reduceSub,Int.reduceTDiv,Int.reduceTMod,Nat.reduceBEq,wrap_id,Int.tmod_eq_emod_of_nonneg,Int.tdiv_eq_ediv_of_nonneg,not_false_eq_true,ne_eq,List.length_map,hh])
      | with_reducible intro h
      | ((with_reducible show _ /\ _);apply And.intro))
  all_goals try ((refine rsl ?_;try exact .intro))
  all_goals first | rfl | (simp_all [handleGen];done) | omega
def bytesOk (l:List Int):Bool:=decide ((l.length:Int) <= 1000) && l.all (fun x=>within x 0 255)
def loadGo (n:Int):List Int -> Int
 | []=>n
 | x :: r=>loadGo (256 * n + x) r
def loadN (b:List Int) (a w:Nat):Int:=loadGo 0 ((b.drop a).take w)
def isByteL (l:List Int):Prop:=∀ x ∈ l,0 <= x /\ x <= 255
theorem bytesOk_iff {l:List Int} (h:bytesOk l=true):l.length <= 1000 /\ isByteL l:=by
 simp only [bytesOk,Bool.and_eq_true,decide_eq_true_eq,List.all_eq_true] at h
 refine ⟨by omega,fun x hx=>?_⟩
 have:=h.2 x hx
 simpa [within] using this
theorem loadGo_bound:∀ (l:List Int) (n:Int) (k:Nat),(∀ x ∈ l,0 <= x /\ x <= 255) -> 0 <= n -> n + 1 <= 256 ^ k -> 0 <= loadGo n l /\ loadGo n l + 1 <= 256 ^ (k + l.length)
 | [],n,k,_,h0,h1=>by simpa [loadGo] using ⟨h0,h1⟩
 | x :: r,n,k,hl,h0,h1=>by
  have hx:=hl x (by simp)
  have:=loadGo_bound r (256 * n + x) (k + 1) (fun y hy=>hl y (by simp [hy])) (by omega) (by rw [Int.pow_succ];omega)
  rw [List.length_cons,show k + (r.length + 1)=k + 1 + r.length by omega]
  exact this
theorem pow256 {i:Nat} (h:i <= 7):(256:Int) ^ i <= 72057594037927936 /\ (i <= 6 -> (256:Int) ^ i <= 281474976710656):=by
 have:i=0 \/ i=1 \/ i=2 \/ i=3 \/ i=4 \/ i=5 \/ i=6 \/ i=7:=by omega
 rcases this with rfl | rfl | rfl | rfl | rfl | rfl | rfl | rfl
 all_goals decide
theorem loadN_bound {b:List Int} (hb:isByteL b) (a:Nat) {w:Nat} (hw:w <= 7):0 <= loadN b a w /\ loadN b a w < 72057594037927936:=by
 have hl:((b.drop a).take w).length <= 7:=by simp;omega
 have:=loadGo_bound ((b.drop a).take w) 0 0 (fun x hx=>hb x (List.mem_of_mem_drop (List.mem_of_mem_take hx))) (by omega) (by simp)
 have h2:=(pow256 (i:=0 + ((b.drop a).take w).length) (by omega)).1
 unfold loadN
 omega
theorem c308 (x:Int):Ctr prog 308 [.one (.dat (.int .i64 x))] [] (.one (.dat (.bool (!within x 0 255)))) []:=by
 refine Ctr.bd mixed func308 rfl ?_
 refine evw ?_
 refine ck e309 (c309 x) rfl ?_
 refine evw ?_
 refine Fin.nt results308 [] ?_ ?_ ?_ <;> try trivial
theorem c272 (l:List Int) (hl:l.length <= maxLen):Ctr prog 272 [.one (.dat (.sl 1 (l.map encI)))] [] (.one (.dat (.bool (bytesOk l)))) []:=by
 refine Ctr.bd mixed func272 rfl ?_
 refine sv3 ?_
 refine scs ?_
 refine ck e163 (c163_k0 l hl e308 (fun x _=>c308 x)) rfl ?_
 refine sv3 ?_
 refine scs ?_
 refine Fin.nt results272 [] ?_ ?_ ?_ <;> try trivial
 (refine rsl ?_;try exact .intro)
 simp only [bytesOk,<- any_not_all]
 cases decide ((l.length:Int) <= 1000) <;> rfl
theorem c210 (l:List Int) (hl:l.length <= maxLen):Ctr prog 210 [.one (.dat (.sl 1 (l.map encI)))] [] (.one (.dat (.bool (bytesOk l)))) []:=by
 refine Ctr.bd mixed func210 rfl ?_
 refine evl ?_
 refine LoopK_intro (fun zn zs=>∃ i:Nat,i <= l.length /\ zn=l.length - i /\ ((l.all fun x=>within x 0 255)=(l.drop i).all fun x=>within x 0 255) /\ zs=mkSt [(3,.one (.dat (.int .i64 i))),(0,.one (.dat (.sl 1 (l.map encI))))] []) (l.length) _
  (Ent.wk []) ⟨0,by omega,by omega,by simp,rfl⟩ ?_
 rintro zn zs ⟨i,hi,rfl,hinv,rfl⟩ K hK
 rcases Nat.lt_or_ge i (l.length) with hlt | hge
 ·have hdi:decide ((i:Int) < ((l.length:Nat):Int))=true:=decide_eq_true (by omega)
  have hw:=wrap_succ hlt hl
  rw [List.drop_eq_getElem_cons hlt,List.all_cons] at hinv
  refine sv0 ?_
  refine scs ?_
  refine ck e67 (c67 l[i] 0 255) rfl ?_
  refine sv0 ?_
  constructor <;> intro h
  ·have h':within l[i] 0 255=false:=by simpa using h
   rw [h',Bool.false_and] at hinv
   apply hK
   refine sv0 ?_
   refine Fin.nt results210 [] ?_ ?_ ?_ <;> try trivial
   (refine rsl ?_;try exact .intro)
   simp [bytesOk,hinv]
  ·have h':within l[i] 0 255=true:=by simpa using h
   rw [h',Bool.true_and] at hinv
   (apply hK
    exact ⟨l.length - (i + 1),_,by omega,Ent.wk [],i + 1,by omega,rfl,hinv,rfl⟩)
 ·have hge':l.length=i:=by omega
  subst hge'
  have hdi:decide (((l.length:Nat):Int) < ((l.length:Nat):Int))=false:=by simp
  rw [List.drop_length,List.all_nil] at hinv
  refine sv1 ?_
  apply hK
  refine sv3 ?_
  refine Fin.nt results210 [] ?_ ?_ ?_ <;> try trivial
  (refine rsl ?_;try exact .intro)
  simp [bytesOk,hinv]
theorem c138 (b:List Int) (hl:b.length <= 16777216) (a:Int) (n:Nat) (ha:a=n) (wi:Int) (w:Nat) (hwi:wi=w) (hw7:w <= 7) (haw:n + w <= b.length) (hb:isByteL b):Ctr prog 138 [.one (.dat (.sl 1 (b.map encI))),.one (.dat (.int .i64 a)),.one (.dat (.int .i64 wi))] [] (.one (.dat (.int .i64 (loadN b n w)))) []:=by
 subst ha hwi
 have hLl:((b.drop n).take w).length=w:=by simp;omega
 have hwr:IntKind.i64.wrap ((n:Int) + w)=((n + w:Nat):Int):=by rw [wrap_id] <;> omega
 have hrows:((b.map encI).drop n).take w=((b.drop n).take w).map encI:=by rw [List.map_take,List.map_drop]
 have hLb:∀ x ∈ (b.drop n).take w,0 <= x /\ x <= 255:=fun x hx=>hb x (List.mem_of_mem_drop (List.mem_of_mem_take hx))
 unfold loadN
 refine Ctr.bd mixed func138 rfl ?_
 simp (maxSteps:=2000000) only [go_sem,seval,hwr,Nat.add_sub_cancel_left,hrows,hLl]
 refine scs ?_
 refine LoopK_intro (fun zn zs=>∃ (i:Nat) (m:Int),i <= w /\ zn=w - i /\ (0 <= m /\ m + 1 <= 256 ^ i /\ loadGo 0 ((b.drop n).take w)=loadGo m (((b.drop n).take w).drop i)) /\ zs=mkSt [(17,.one (.dat (.int .i64 i))),(16,.one (.dat (.int .i64 (w)))),(7,.one (.dat (.int .i64 m))),(15,.one (.dat (.sl 1 (((b.drop n).take w).map encI)))),(0,.one (.dat (.sl 1 (b.map encI))))] []) (w) _
  (Ent.wk []) ⟨0,0,by omega,by omega,by simp,rfl⟩ ?_
 rintro zn zs ⟨i,m,hi,rfl,hinv,rfl⟩ K hK
 rcases Nat.lt_or_ge i (w) with hlt | hge
 ·have hdi:decide ((i:Int) < ((w:Nat):Int))=true:=decide_eq_true (by omega)
  have hw:=wrap_succ hlt (show w <= maxLen from Nat.le_trans hw7 (by decide))
  obtain ⟨hm0,hm1,hinv⟩:=hinv
  have hi6:=(pow256 (i:=i) (by omega)).2 (by omega)
  have hll:i < ((b.drop n).take w).length:=by omega
  have hnl:n + i < b.length:=by omega
  have hel:((b.drop n).take w)[i]=b[n + i]:=by simp
  rw [List.drop_eq_getElem_cons hll,loadGo,hel] at hinv
  have hxb:=hb _ (List.getElem_mem hnl)
  have hgd:(((b.drop n).take w).map encI).getD i []=[.int .i64 b[n + i]]:=by rw [getD_map hll,encI,hel]
  have hw1:IntKind.i64.wrap (256 * m)=256 * m:=by rw [wrap_id] <;> omega
  have hw2:IntKind.i64.wrap (256 * m + b[n + i])=256 * m + b[n + i]:=by rw [wrap_id] <;> omega
  simp (maxSteps:=2000000) only [go_sem,seval,hdi,hw,hw1,hw2,hgd]
  refine scs ?_
  (apply hK
   exact ⟨w - (i + 1),_,by omega,Ent.wk [],i + 1,(256 * m + b[n + i]),by omega,rfl,⟨by omega,by rw [Int.pow_succ];omega,hinv⟩,rfl⟩)
 ·have hge':w=i:=by omega
  subst hge'
  have hdi:decide (((w:Nat):Int) < ((w:Nat):Int))=false:=by simp
  obtain ⟨_,_,hinv⟩:=hinv
  have hdl:((b.drop n).take w).drop w=[]:=List.drop_eq_nil_of_le (by omega)
  rw [hdl,loadGo] at hinv
  refine sv1 ?_
  apply hK
  refine evl ?_
  refine Fin.nt results138 [] ?_ ?_ ?_ <;> try trivial
  (refine rsl ?_;try exact .intro)
  exact hinv.symm
theorem c205 (b:List Int) (hl:b.length <= 16777216) (a:Int) (n:Nat) (ha:a=n) (wi:Int) (w:Nat) (hwi:wi=w) (hw7:w <= 7) (haw:n + w <= b.length) (hb:isByteL b):Ctr prog 205 [.one (.dat (.sl 1 (b.map encI))),.one (.dat (.int .i64 a)),.one (.dat (.int .i64 wi))] [] (.one (.dat (.int .i64 (loadN b n w)))) []:=by
 subst ha hwi
 have hLl:((b.drop n).take w).length=w:=by simp;omega
 have hLb:∀ x ∈ (b.drop n).take w,0 <= x /\ x <= 255:=fun x hx=>hb x (List.mem_of_mem_drop (List.mem_of_mem_take hx))
 unfold loadN
 refine Ctr.bd mixed func205 rfl ?_
 refine evl ?_
 refine LoopK_intro (fun zn zs=>∃ (i:Nat) (m:Int),i <= w /\ zn=w - i /\ (0 <= m /\ m + 1 <= 256 ^ i /\ loadGo 0 ((b.drop n).take w)=loadGo m (((b.drop n).take w).drop i)) /\ zs=mkSt [(8,.one (.dat (.int .i64 i))),(7,.one (.dat (.int .i64 m))),(1,.one (.dat (.int .i64 (n:Nat)))),(2,.one (.dat (.int .i64 (w:Nat)))),(0,.one (.dat (.sl 1 (b.map encI))))] []) (w) _
  (Ent.wk []) ⟨0,0,by omega,by omega,by simp,rfl⟩ ?_
 rintro zn zs ⟨i,m,hi,rfl,hinv,rfl⟩ K hK
 rcases Nat.lt_or_ge i (w) with hlt | hge
 ·have hdi:decide ((i:Int) < ((w:Nat):Int))=true:=decide_eq_true (by omega)
  have hw:=wrap_succ hlt (show w <= maxLen from Nat.le_trans hw7 (by decide))
  obtain ⟨hm0,hm1,hinv⟩:=hinv
  have hi6:=(pow256 (i:=i) (by omega)).2 (by omega)
  have hll:i < ((b.drop n).take w).length:=by omega
  have hnl:n + i < b.length:=by omega
  have hel:((b.drop n).take w)[i]=b[n + i]:=by simp
  rw [List.drop_eq_getElem_cons hll,loadGo,hel] at hinv
  have hxb:=hb _ (List.getElem_mem hnl)
  have hwn:IntKind.i64.wrap ((n:Int) + i)=((n + i:Nat):Int):=by rw [wrap_id] <;> omega
  have hw1:IntKind.i64.wrap (m * 256)=256 * m:=by rw [wrap_id] <;> omega
  have hw2:IntKind.i64.wrap (256 * m + b[n + i])=256 * m + b[n + i]:=by rw [wrap_id] <;> omega
  simp (maxSteps:=2000000) only [go_sem,seval,hdi,hw,hwn,hw1,hw2,getD_map hnl,encI]
  refine scs ?_
  (apply hK
   exact ⟨w - (i + 1),_,by omega,Ent.wk [],i + 1,(256 * m + b[n + i]),by omega,rfl,⟨by omega,by rw [Int.pow_succ];omega,hinv⟩,rfl⟩)
 ·have hge':w=i:=by omega
  subst hge'
  have hdi:decide (((w:Nat):Int) < ((w:Nat):Int))=false:=by simp
  obtain ⟨_,_,hinv⟩:=hinv
  have hdl:((b.drop n).take w).drop w=[]:=List.drop_eq_nil_of_le (by omega)
  rw [hdl,loadGo] at hinv
  refine sv1 ?_
  apply hK
  refine evl ?_
  refine Fin.nt results205 [] ?_ ?_ ?_ <;> try trivial
  (refine rsl ?_;try exact .intro)
  exact hinv.symm
def clsAt (h:Heap) (p:Nat):Int:=h.Class.getD p 0
def shapedM (h:Heap):Bool:=((h.Bytes.length:Int) == 384) && bytesOk h.Bytes && ((h.Class.length:Int) == 6) && h.Class.all (fun c=>within c (-1) 2)
theorem shaped_iff {h:Heap} (hs:shapedM h=true):h.Bytes.length=384 /\ isByteL h.Bytes /\ h.Class.length=6 /\ ∀ c ∈ h.Class,-1 <= c /\ c <= 2:=by
 simp only [shapedM,Bool.and_eq_true,beq_iff_eq,List.all_eq_true] at hs
 obtain ⟨⟨⟨h1,h2⟩,h3⟩,h4⟩:=hs
 refine ⟨by omega,(bytesOk_iff h2).2,by omega,fun c hc=>?_⟩
 have:=h4 c hc
 simpa [within] using this
def pg (h:Heap) (p:Nat):List Int:=(h.Bytes.drop (p * 64)).take 64
def pageGens (h:Heap) (p:Nat) (c:Int):Bool:=(List.range (perPage c).toNat).all fun i=>within (loadN h.Bytes (p * 64 + 8 + i * (strideOf c).toNat) 4) 1 7
def headOkM (h:Heap) (p:Nat):Bool:=(h.Bytes.getD (p * 64) 0 == 171) && (h.Bytes.getD (p * 64 + 1) 0 == clsAt h p) && (h.Bytes.getD (p * 64 + 2) 0 == perPage (clsAt h p)) && ((h.Bytes.drop (p * 64 + 3)).take 5).all (fun x=>x == 0)
def pageOkM (h:Heap) (p:Nat):Bool :=
 bif decide (clsAt h p < 0) then (pg h p).all (fun x=>x == 0)
 else headOkM h p && pageGens h p (clsAt h p)
def heapOk (h:Heap):Bool:=shapedM h && (List.range 6).all (pageOkM h)
theorem c273 (x:Int):Ctr prog 273 [.one (.dat (.int .i64 x))] [] (.one (.dat (.bool (!within x (-1) 2)))) []:=by
 refine Ctr.bd mixed func273 rfl ?_
 refine evw ?_
 refine ck e57 (c57 x (-1) 2) rfl ?_
 refine evw ?_
 refine Fin.nt results273 [] ?_ ?_ ?_ <;> try trivial
theorem c195 (h:Heap) (hz:sizHeap h <= 1048576):Ctr prog 195 [.agg ((encHeap h).map .dat)] [] (.one (.dat (.bool (shapedM h)))) []:=by
 obtain ⟨hl1,hl2,_⟩:=Heap.lok_of (x:=h) (by omega)
 simp only [encHeap,List.map_cons,List.map_nil]
 refine Ctr.bd mixed func195 rfl ?_
 refine sv3 ?_
 refine scs ?_
 refine ck e272 (c272 h.Bytes hl1) rfl ?_
 refine sv3 ?_
 refine scs ?_
 refine ck e163 (c163_k0 h.Class hl2 e273 (fun x _=>c273 x)) rfl ?_
 refine sv3 ?_
 refine scs ?_
 refine Fin.nt results195 [] ?_ ?_ ?_ <;> try trivial
 (refine rsl ?_;try exact .intro)
 simp only [shapedM,<- any_not_all]
 cases ((h.Bytes.length:Int) == 384) <;> cases bytesOk h.Bytes <;> cases ((h.Class.length:Int) == 6) <;> rfl
theorem c130 (h:Heap) (hz:sizHeap h <= 1048576):Ctr prog 130 [.agg ((encHeap h).map .dat)] [] (.one (.dat (.bool (shapedM h)))) []:=by
 obtain ⟨hl1,hl2,_⟩:=Heap.lok_of (x:=h) (by omega)
 simp only [encHeap,List.map_cons,List.map_nil]
 refine Ctr.bd mixed func130 rfl ?_
 refine sv3 ?_
 refine scs ?_
 refine ck e210 (c210 h.Bytes hl1) rfl ?_
 refine sv3 ?_
 refine scs ?_
 constructor <;> intro hc
 ·refine Fin.nt results130 [] ?_ ?_ ?_ <;> try trivial
  (refine rsl ?_;try exact .intro)
  simp only [shapedM]
  revert hc
  simp only [bne]
  cases ((h.Bytes.length:Int) == 384) <;> cases bytesOk h.Bytes <;> cases ((h.Class.length:Int) == 6) <;> simp
 obtain ⟨hc1,hc2,hc3⟩:((h.Bytes.length:Int) == 384)=true /\ bytesOk h.Bytes=true /\ ((h.Class.length:Int) == 6)=true:=by
  revert hc
  simp only [bne]
  cases ((h.Bytes.length:Int) == 384) <;> cases bytesOk h.Bytes <;> cases ((h.Class.length:Int) == 6) <;> simp
 have hsm:shapedM h=h.Class.all (fun c=>within c (-1) 2):=by simp only [shapedM,hc1,hc2,hc3,Bool.true_and]
 rw [hsm]
 have h6:h.Class.length=6:=by simp only [beq_iff_eq] at hc3;omega
 refine LoopK_intro (fun zn zs=>∃ i:Nat,i <= 6 /\ zn=6 - i /\ ((h.Class.all fun c=>within c (-1) 2)=(h.Class.drop i).all fun c=>within c (-1) 2) /\ zs=mkSt [(3,.one (.dat (.int .i64 i))),(1,.one (.ptr (.own 0 0 0)))] [.box [.dat (.sl 1 (h.Bytes.map encI)),.dat (.sl 1 (h.Class.map encI))]]) (6) _
  (Ent.wk [0]) ⟨0,by omega,by omega,by simp,rfl⟩ ?_
 rintro zn zs ⟨i,hi,rfl,hinv,rfl⟩ K hK
 rcases Nat.lt_or_ge i (6) with hlt | hge
 ·have hdi:decide ((i:Int) < ((6:Nat):Int))=true:=decide_eq_true (by omega)
  have hw:=wrap_succ hlt (show 6 <= maxLen by decide)
  have hd6:decide ((i:Int) < 6)=true:=decide_eq_true (by omega)
  have hic:i < h.Class.length:=by omega
  rw [List.drop_eq_getElem_cons hic,List.all_cons] at hinv
  refine sv4 ?_
  refine scs ?_
  refine ck e67 (c67 h.Class[i] (-1) 2) rfl ?_
  refine sv4 ?_
  constructor <;> intro hq
  ·have h':within h.Class[i] (-1) 2=false:=by simpa using hq
   rw [h',Bool.false_and] at hinv
   apply hK
   refine sv4 ?_
   refine Fin.nt results130 [] ?_ ?_ ?_ <;> try trivial
   (refine rsl ?_;try exact .intro)
   exact hinv.symm
  ·have h':within h.Class[i] (-1) 2=true:=by simpa using hq
   rw [h',Bool.true_and] at hinv
   (apply hK
    exact ⟨6 - (i + 1),_,by omega,Ent.wk [0],i + 1,by omega,rfl,hinv,rfl⟩)
 ·have hge':6=i:=by omega
  subst hge'
  have hdi:decide (((6:Nat):Int) < ((6:Nat):Int))=false:=by simp
  have hd6:decide (((6:Nat):Int) < 6)=false:=rfl
  rw [<- h6,List.drop_length,List.all_nil] at hinv
  refine sv5 ?_
  apply hK
  refine evl ?_
  refine Fin.nt results130 [] ?_ ?_ ?_ <;> try trivial
  (refine rsl ?_;try exact .intro)
  exact hinv.symm
theorem c310 (x:Int):Ctr prog 310 [.one (.dat (.int .i64 x))] [] (.one (.dat (.bool (x != 0)))) []:=by
 refine Ctr.bd mixed func310 rfl ?_
 refine evl ?_
 refine Fin.nt results310 [] ?_ ?_ ?_ <;> try trivial
theorem c274 (l:List Int) (hl:l.length <= maxLen):Ctr prog 274 [.one (.dat (.sl 1 (l.map encI)))] [] (.one (.dat (.bool (l.all fun x=>x == 0)))) []:=by
 refine Ctr.bd mixed func274 rfl ?_
 refine evl ?_
 refine ck e163 (c163_k0 l hl e310 (fun x _=>c310 x)) rfl ?_
 refine evl ?_
 refine Fin.nt results274 [] ?_ ?_ ?_ <;> try trivial
 (refine rsl ?_;try exact .intro)
 rw [<- any_not_all];rfl
def slotsOf (l:List SList):List Int:=(l.map (·.Slots)).flatten
def goodSlots (l:List Int):Bool:=l.all (fun x=>within x 0 23) && decide l.Nodup
def listsOk (l:Lists):Bool:=decide ((l.Global.length:Int)=3) && decide ((l.Own.length:Int)=9) && l.Own.all (fun s=>decide ((s.Slots.length:Int) <= 2)) && goodSlots (slotsOf l.Global ++ slotsOf l.Own)
def onListM (l:Lists) (x:Int):Bool:=(slotsOf l.Global ++ slotsOf l.Own).any fun y=>y == x
theorem slotsOf_drop {l:List SList} {i:Nat} (h:i < l.length):slotsOf (l.drop i)=l[i].Slots ++ slotsOf (l.drop (i + 1)):=by
 unfold slotsOf
 rw [List.drop_eq_getElem_cons h,List.map_cons,List.flatten_cons]
theorem slotsOf_len (l:List SList):(slotsOf l).length=(l.map sizSList).sum:=by
 induction l with
 | nil=>rfl
 | cons x l ih=>simp only [slotsOf,List.map_cons,List.flatten_cons,List.length_append,List.sum_cons] at ih ⊢;rw [ih];rfl
theorem c132 (l:Lists) (hz:sizLists l <= 1048576):Ctr prog 132 [.agg ((encLists l).map .dat)] [] (.one (.own 0)) [.vec 1 true ((slotsOf l.Global ++ slotsOf l.Own).map encI)]:=by
 have hmx:maxLen=9223372036854775807:=rfl
 unfold sizLists sizSListS at hz
 have hg:=slotsOf_len l.Global
 have ho:=slotsOf_len l.Own
 simp only [encLists,List.map_cons,List.map_nil]
 refine Ctr.bd mixed func132 rfl ?_
 refine evl ?_
 refine scs ?_
 refine LoopK_intro (fun zn zs=>∃ (i:Nat) (o:List Int),i <= l.Global.length /\ zn=l.Global.length - i /\ (slotsOf l.Global=o ++ slotsOf (l.Global.drop i)) /\ zs=mkSt [(4,.one (.dat (.int .i64 i))),(1,.one (.ptr (.own 0 0 0))),(3,.one (.own 1))] [.box [.dat (.sl 1 (l.Global.map encSList)),.dat (.sl 1 (l.Own.map encSList))],.vec 1 true (o.map encI)]) (l.Global.length) _
  (Ent.wk [0,1]) ⟨0,[],by omega,by omega,rfl,rfl⟩ ?_
 rintro zn zs ⟨i,o,hi,rfl,hinv,rfl⟩ K hK
 rcases Nat.lt_or_ge i (l.Global.length) with hlt | hge
 ·have hdi:decide ((i:Int) < ((l.Global.length:Nat):Int))=true:=decide_eq_true (by omega)
  have hw:=wrap_succ hlt (show l.Global.length <= maxLen by omega)
  rw [slotsOf_drop hlt] at hinv
  have hlen:o.length + l.Global[i].Slots.length <= 1048576:=by
   have:=congrArg List.length hinv
   simp only [List.length_append] at this
   omega
  refine sv6 ?_
  refine scs ?_
  (apply hK
   exact ⟨l.Global.length - (i + 1),_,by omega,Ent.wk [0,2],i + 1,(o ++ l.Global[i].Slots),by omega,rfl,by rw [List.append_assoc];exact hinv,rfl⟩)
 ·have hge':l.Global.length=i:=by omega
  subst hge'
  have hdi:decide (((l.Global.length:Nat):Int) < ((l.Global.length:Nat):Int))=false:=by simp
  rw [List.drop_length] at hinv
  have hoe:o=slotsOf l.Global:=by rw [hinv];simp [slotsOf]
  subst hoe
  clear hinv
  refine sv1 ?_
  apply hK
  refine evl ?_
  refine LoopK_intro (fun zn zs=>∃ (i:Nat) (o:List Int),i <= l.Own.length /\ zn=l.Own.length - i /\ (slotsOf l.Own=o ++ slotsOf (l.Own.drop i)) /\ zs=mkSt [(5,.one (.dat (.int .i64 i))),(1,.one (.ptr (.own 0 0 0))),(3,.one (.own 1))] [.box [.dat (.sl 1 (l.Global.map encSList)),.dat (.sl 1 (l.Own.map encSList))],.vec 1 true ((slotsOf l.Global ++ o).map encI)]) (l.Own.length) _
   (Ent.wk [0,1]) ⟨0,[],by omega,by omega,rfl,rfl⟩ ?_
  rintro zn zs ⟨i,o,hi,rfl,hinv,rfl⟩ K hK
  rcases Nat.lt_or_ge i (l.Own.length) with hlt | hge
  ·have hdi:decide ((i:Int) < ((l.Own.length:Nat):Int))=true:=decide_eq_true (by omega)
   have hw:=wrap_succ hlt (show l.Own.length <= maxLen by omega)
   rw [slotsOf_drop hlt] at hinv
   have hlen:o.length + l.Own[i].Slots.length <= (slotsOf l.Own).length:=by
    have:=congrArg List.length hinv
    simp only [List.length_append] at this
    omega
   simp (maxSteps:=2000000) only [go_sem,seval,hdi,hw,getD_map hlt,encSList,List.length_append]
   refine scs ?_
   (apply hK
    exact ⟨l.Own.length - (i + 1),_,by omega,Ent.wk [0,2],i + 1,(o ++ l.Own[i].Slots),by omega,rfl,by rw [List.append_assoc];exact hinv,rfl⟩)
  ·have hge':l.Own.length=i:=by omega
   subst hge'
   have hdi:decide (((l.Own.length:Nat):Int) < ((l.Own.length:Nat):Int))=false:=by simp
   rw [List.drop_length] at hinv
   have hoe:o=slotsOf l.Own:=by rw [hinv];simp [slotsOf]
   subst hoe
   refine sv1 ?_
   apply hK
   refine evl ?_
   refine Fin.nt results132 [1] ?_ ?_ ?_ <;> try trivial
   all_goals exact entd
theorem c56 (w c:Int) (hw:0 <= w /\ w <= 2) (hc:0 <= c /\ c <= 2):Ctr prog 56 [.one (.dat (.int .i64 w)),.one (.dat (.int .i64 c))] [] (.one (.dat (.int .i64 (w * 3 + c)))) []:=by
 have w1:within w 0 2=true:=by simp [within];omega
 have w2:within c 0 2=true:=by simp [within];omega
 refine Ctr.bd mixed func56 rfl ?_
 refine evw ?_
 (repeat' first
      | ((with_reducible show Abs.Fin _ _ _ _ _ _);refine Fin.nt results56 [] ?_ ?_ ?_ <;> try trivial)
      | ((first | refine CCallK_pl e67 (c67 ..) rfl rfl ?_ | refine CCallK_pm e67 (c67 ..) rfl rfl ?_ | refine ck e67 (c67 ..) rfl ?_);simp (maxSteps:=2000000) (disch:=omega) only [go_sem,↓reduceIte,reduceCtorEq,Nat.reduceAdd,Nat.reduceMul,Nat.reduceSub,Nat.reduceLT,Nat.reduceLeDiff,Nat.reduceEqDiff,Int.reduceToNat,Int.reduceLT,Int.reduceLE,Int.reduceNeg,Int.reduceEq,Int.reduceNe,Int.reduceBEq,Int.reduceBNe,Int.reduceAdd,Int.reduceMul,Int.reduceSub,Int.reduceTDiv,Int.reduceTMod,Nat.reduceBEq,wrap_id,Int.tmod_eq_emod_of_nonneg,Int.tdiv_eq_ediv_of_nonneg,not_false_eq_true,ne_eq,List.length_map,w1,w2])
      | with_reducible intro h
      | ((with_reducible show _ /\ _);apply And.intro))
 all_goals try ((refine rsl ?_;try exact .intro))
 all_goals first | rfl | (simp_all;done) | omega
theorem pg_len {h:Heap} {p:Nat} (hl:h.Bytes.length=384) (hp:p < 6):(pg h p).length=64:=by simp [pg,hl];omega
theorem pg_get {h:Heap} {p k:Nat} (hl:h.Bytes.length=384) (hp:p < 6) (hk:k < 64):((pg h p).map encI).getD k []=[.int .i64 (h.Bytes.getD (p * 64 + k) 0)]:=by
 have h1:k < (pg h p).length:=by rw [pg_len hl hp];exact hk
 have h2:p * 64 + k < h.Bytes.length:=by omega
 rw [getD_map h1,encI]
 simp [pg,List.getD_eq_getElem?_getD,h2]
theorem pg_sub {h:Heap} {p:Nat}:(((pg h p).map encI).drop 3).take 5=((h.Bytes.drop (p * 64 + 3)).take 5).map encI:=by
 simp only [pg,<- List.map_drop,<- List.map_take]
 congr 1
 rw [List.drop_take,List.drop_drop,List.take_take]
 rfl
theorem pg_load {h:Heap} {p a w:Nat} (ha:a + w <= 64):loadN (pg h p) a w=loadN h.Bytes (p * 64 + a) w:=by
 unfold loadN pg
 congr 1
 rw [List.drop_take,List.drop_drop,List.take_take]
 congr 1
 omega
theorem pg_byte {h:Heap} {p:Nat} (hb:isByteL h.Bytes):isByteL (pg h p):=fun x hx=>hb x (List.mem_of_mem_drop (List.mem_of_mem_take hx))
theorem cls_mem {h:Heap} {p:Nat} (hs:shapedM h=true) (hp:p < 6):-1 <= clsAt h p /\ clsAt h p <= 2:=by
 obtain ⟨_,_,h3,h4⟩:=shaped_iff hs
 have:p < h.Class.length:=by omega
 have e:clsAt h p=h.Class[p]:=by simp [clsAt,List.getD_eq_getElem?_getD,this]
 rw [e]
 exact h4 _ (List.getElem_mem this)
theorem cls_get {h:Heap} {p:Nat} (hl:h.Class.length=6) (hp:p < 6):(h.Class.map encI).getD p []=[.int .i64 (clsAt h p)]:=by
 have:p < h.Class.length:=by omega
 rw [getD_map this,encI]
 simp [clsAt,List.getD_eq_getElem?_getD,this]
theorem page_nums (c:Int):∃ k t:Nat,perPage c=k /\ strideOf c=t /\ k <= 4 /\ t <= 44 /\ ∀ i,i < k -> i * t + 12 <= 64:=by
 rcases class_cases c with rfl | rfl | rfl | ⟨_,_,e1,e2⟩
 ·exact ⟨4,12,p_0,t_0,by omega,by omega,fun i _=>by omega⟩
 ·exact ⟨2,20,p_1,t_1,by omega,by omega,fun i _=>by omega⟩
 ·exact ⟨1,44,p_2,t_2,by omega,by omega,fun i _=>by omega⟩
 ·exact ⟨0,0,e2,e1,by omega,by omega,fun i _=>by omega⟩
theorem pageGens_true {h:Heap} {p:Nat} {c:Int} {k t:Nat} (hk:perPage c=k) (ht:strideOf c=t) (ha:∀ j,j < k -> within (loadN h.Bytes (p * 64 + 8 + j * t) 4) 1 7=true):pageGens h p c=true:=by
 unfold pageGens
 rw [hk,ht]
 simp only [Int.toNat_natCast,List.all_eq_true,List.mem_range]
 exact ha
theorem pageGens_false {h:Heap} {p:Nat} {c:Int} {k t i:Nat} (hk:perPage c=k) (ht:strideOf c=t) (hi:i < k) (ha:within (loadN h.Bytes (p * 64 + 8 + i * t) 4) 1 7=false):pageGens h p c=false:=by
 unfold pageGens
 rw [hk,ht]
 simp only [Int.toNat_natCast,List.all_eq_false,List.mem_range]
 exact ⟨i,hi,by rw [ha];decide⟩
theorem c196 (h:Heap) (hz:sizHeap h <= 1048576) (hs:shapedM h=true) (pi:Int) (p:Nat) (hpi:pi=p) (hp:p < 6):Ctr prog 196 [.agg ((encHeap h).map .dat),.one (.dat (.int .i64 pi))] [] (.one (.dat (.bool (pageOkM h p)))) []:=by
 subst hpi
 obtain ⟨hl,hb,hlc,_⟩:=shaped_iff hs
 have hc:=cls_mem hs hp
 have hw1:IntKind.i64.wrap ((p:Int) * 64)=((p * 64:Nat):Int):=by rw [wrap_id] <;> omega
 have hw2:IntKind.i64.wrap ((p:Int) + 1)=((p + 1:Nat):Int):=by rw [wrap_id] <;> omega
 have hw3:IntKind.i64.wrap (((p + 1:Nat):Int) * 64)=((p * 64 + 64:Nat):Int):=by rw [wrap_id] <;> omega
 have hrows:((h.Bytes.map encI).drop (p * 64)).take 64=(pg h p).map encI:=by rw [pg,List.map_take,List.map_drop]
 have hpl:=pg_len hl hp
 have hpm:(pg h p).length <= maxLen:=by rw [hpl];decide
 have hpm5:((h.Bytes.drop (p * 64 + 3)).take 5).length <= maxLen:=Nat.le_trans (List.length_take_le _ _) (by decide)
 simp only [encHeap,List.map_cons,List.map_nil]
 refine Ctr.bd mixed func196 rfl ?_
 simp (maxSteps:=2000000) only [go_sem,seval,hw1,hw2,hw3,cls_get hlc hp,hlc,hl,Nat.add_sub_cancel_left,hrows]
 refine scs ?_
 constructor <;> intro hq
 ·refine ck e274 (c274 (pg h p) hpm) rfl ?_
  refine evl ?_
  refine Fin.nt results196 [] ?_ ?_ ?_ <;> try trivial
  (refine rsl ?_;try exact .intro)
  simp only [pageOkM,hq,cond_true]
 ·simp (maxSteps:=2000000) only [go_sem,seval,pg_get hl hp (show 0 < 64 by decide),pg_get hl hp (show 1 < 64 by decide),pg_get hl hp (show 2 < 64 by decide)]
  refine scs ?_
  refine ck e275 (c275 (clsAt h p)) rfl ?_
  simp (maxSteps:=2000000) only [go_sem,seval,pg_get hl hp (show 2 < 64 by decide),pg_sub]
  refine scs ?_
  refine ck e274 (c274 ((h.Bytes.drop (p * 64 + 3)).take 5) hpm5) rfl ?_
  refine evl ?_
  refine scs ?_
  constructor <;> intro hr
  ·have hh:headOkM h p=false:=by
    revert hr
    simp only [headOkM,bne]
    cases (h.Bytes.getD (p * 64) 0 == 171) <;> cases (h.Bytes.getD (p * 64 + 1) 0 == clsAt h p) <;> cases (h.Bytes.getD (p * 64 + 2) 0 == perPage (clsAt h p)) <;> cases (((h.Bytes.drop (p * 64 + 3)).take 5).all (fun x=>x == 0)) <;> simp
   refine Fin.nt results196 [] ?_ ?_ ?_ <;> try trivial
   (refine rsl ?_;try exact .intro)
   simp only [pageOkM,hq,hh,cond_false,Bool.false_and]
  have hh:headOkM h p=true:=by
   revert hr
   simp only [headOkM,bne]
   cases (h.Bytes.getD (p * 64) 0 == 171) <;> cases (h.Bytes.getD (p * 64 + 1) 0 == clsAt h p) <;> cases (h.Bytes.getD (p * 64 + 2) 0 == perPage (clsAt h p)) <;> cases (((h.Bytes.drop (p * 64 + 3)).take 5).all (fun x=>x == 0)) <;> simp
  have hm:pageOkM h p=pageGens h p (clsAt h p):=by simp only [pageOkM,hq,hh,cond_false,Bool.true_and]
  rw [hm]
  obtain ⟨k,t,hk,ht,hk4,ht4,hkt⟩:=page_nums (clsAt h p)
  refine ck e275 (c275 (clsAt h p)) rfl ?_
  simp (maxSteps:=2000000) only [go_sem,seval,hk]
  refine LoopK_intro (fun zn zs=>∃ i:Nat,i <= k /\ zn=k - i /\ (∀ j,j < i -> within (loadN h.Bytes (p * 64 + 8 + j * t) 4) 1 7=true) /\ zs=mkSt [(52,.one (.dat (.int .i64 i))),(51,.one (.dat (.int .i64 (k)))),(5,.one (.dat (.int .i64 (clsAt h p)))),(6,.one (.dat (.sl 1 ((pg h p).map encI))))] []) (k) _
   (Ent.wk []) ⟨0,by omega,by omega,fun j hj=>absurd hj (Nat.not_lt_zero j),rfl⟩ ?_
  rintro zn zs ⟨i,hi,rfl,hinv,rfl⟩ K hK
  rcases Nat.lt_or_ge i (k) with hlt | hge
  ·have hdi:decide ((i:Int) < ((k:Nat):Int))=true:=decide_eq_true (by omega)
   have hw:=wrap_succ hlt (show k <= maxLen from Nat.le_trans hk4 (by decide))
   have hib:=hkt i hlt
   have hit:IntKind.i64.wrap ((i:Int) * (t:Int))=((i * t:Nat):Int):=by rw [<- Int.natCast_mul,wrap_id] <;> omega
   have hi8:IntKind.i64.wrap (8 + ((i * t:Nat):Int))=((8 + i * t:Nat):Int):=by rw [wrap_id] <;> omega
   refine sv7 ?_
   refine scs ?_
   refine ck e276 (c276 (clsAt h p)) rfl ?_
   refine sv7 ?_
   refine scs ?_
   refine ck e138 (c138 (pg h p) (by omega) _ (8 + i * t) rfl 4 4 rfl (by decide) (by omega) (pg_byte hb)) rfl ?_
   refine sv7 ?_
   refine scs ?_
   refine ck e57 (c57 (loadN (pg h p) (8 + i * t) 4) 1 7) rfl ?_
   rw [pg_load (by omega),<- Nat.add_assoc]
   refine sv7 ?_
   constructor <;> intro hq
   ·have h':within (loadN h.Bytes (p * 64 + 8 + i * t) 4) 1 7=false:=by simpa using hq
    apply hK
    refine sv7 ?_
    refine Fin.nt results196 [] ?_ ?_ ?_ <;> try trivial
    (refine rsl ?_;try exact .intro)
    exact (pageGens_false hk ht hlt h').symm
   ·have h':within (loadN h.Bytes (p * 64 + 8 + i * t) 4) 1 7=true:=by simpa using hq
    (apply hK
     exact ⟨k - (i + 1),_,by omega,Ent.wk [],i + 1,by omega,rfl,(fun j hj=>by rcases Nat.lt_succ_iff_lt_or_eq.1 hj with hj | rfl;exact hinv j hj;exact h'),rfl⟩)
  ·have hge':k=i:=by omega
   subst hge'
   have hdi:decide (((k:Nat):Int) < ((k:Nat):Int))=false:=by simp
   refine sv1 ?_
   apply hK
   refine evl ?_
   refine Fin.nt results196 [] ?_ ?_ ?_ <;> try trivial
   (refine rsl ?_;try exact .intro)
   exact (pageGens_true hk ht hinv).symm
theorem byte_get {b:List Int} {k:Nat} (hk:k < b.length):(b.map encI).getD k []=[.int .i64 (b.getD k 0)]:=by
 rw [getD_map hk,encI]
 simp [List.getD_eq_getElem?_getD,hk]
theorem sub_get {b:List Int} {a n j:Nat} (h:a + n <= b.length) (hj:j < n):((b.drop a).take n)[j]?=some (b.getD (a + j) 0):=by
 have:a + j < b.length:=by omega
 simp [List.getElem?_take,hj,List.getD_eq_getElem?_getD,this]
theorem sub_all {b:List Int} {a n:Nat} (h:a + n <= b.length) (ha:∀ j,j < n -> b.getD (a + j) 0=0):((b.drop a).take n).all (fun x=>x == 0)=true:=by
 rw [List.all_eq_true]
 intro x hx
 obtain ⟨j,hj,rfl⟩:=List.mem_iff_getElem.1 hx
 have hn:j < n:=by simp at hj;omega
 have:=sub_get h hn
 rw [List.getElem?_eq_getElem hj] at this
 rw [Option.some.inj this,ha j hn];rfl
theorem sub_not {b:List Int} {a n j:Nat} (h:a + n <= b.length) (hj:j < n) (ha:b.getD (a + j) 0 ≠ 0):((b.drop a).take n).all (fun x=>x == 0)=false:=by
 rw [List.all_eq_false]
 exact ⟨b.getD (a + j) 0,List.mem_of_getElem? (sub_get h hj),by simpa using ha⟩
theorem slot_gen {p i:Nat} {c:Int} {k t:Nat} (hp:p < 6) (hk:perPage c=k) (ht:strideOf c=t) (hk4:k <= 4) (hi:i < k):genAt ((p:Int) * 4 + i) c=((p * 64 + 8 + i * t:Nat):Int):=by
 have e1:((p:Int) * 4 + i) % 4=i:=by omega
 have e2:((p:Int) * 4 + i) / 4=p:=by omega
 rw [genAt_pos (by omega) (by omega) (by rw [e1,hk];omega),e1,e2,ht]
 simp only [Int.natCast_add,Int.natCast_mul]
 rfl
theorem c131 (h:Heap) (hz:sizHeap h <= 1048576) (hs:shapedM h=true) (pi:Int) (p:Nat) (hpi:pi=p) (hp:p < 6):Ctr prog 131 [.agg ((encHeap h).map .dat),.one (.dat (.int .i64 pi))] [] (.one (.dat (.bool (pageOkM h p)))) []:=by
 subst hpi
 obtain ⟨hl,hb,hlc,_⟩:=shaped_iff hs
 have hc:=cls_mem hs hp
 have hw1:IntKind.i64.wrap ((p:Int) * 64)=((p * 64:Nat):Int):=by rw [wrap_id] <;> omega
 have hw64:IntKind.i64.wrap (((p * 64:Nat):Int) + 64)=((p * 64 + 64:Nat):Int):=by rw [wrap_id] <;> omega
 have hwa1:IntKind.i64.wrap (((p * 64:Nat):Int) + 1)=((p * 64 + 1:Nat):Int):=by rw [wrap_id] <;> omega
 have hwa2:IntKind.i64.wrap (((p * 64:Nat):Int) + 2)=((p * 64 + 2:Nat):Int):=by rw [wrap_id] <;> omega
 have hwa3:IntKind.i64.wrap (((p * 64:Nat):Int) + 3)=((p * 64 + 3:Nat):Int):=by rw [wrap_id] <;> omega
 have hwa8:IntKind.i64.wrap (((p * 64:Nat):Int) + 8)=((p * 64 + 8:Nat):Int):=by rw [wrap_id] <;> omega
 have hg0:=byte_get (b:=h.Bytes) (k:=p * 64) (by omega)
 have hg1:=byte_get (b:=h.Bytes) (k:=p * 64 + 1) (by omega)
 have hg2:=byte_get (b:=h.Bytes) (k:=p * 64 + 2) (by omega)
 simp only [encHeap,List.map_cons,List.map_nil]
 refine Ctr.bd mixed func131 rfl ?_
 simp (maxSteps:=2000000) only [go_sem,seval,hw1,cls_get hlc hp,hlc,hl,hwa1,hwa2,hg0,hg1,hg2]
 refine scs ?_
 constructor <;> intro hq
 ·skip
  refine LoopK_intro (fun zn zs=>∃ i:Nat,i <= 64 /\ zn=64 - i /\ (∀ j,j < i -> h.Bytes.getD (p * 64 + j) 0=0) /\ zs=mkSt [(2,.one (.ptr (.own 0 0 0))),(5,.one (.dat (.int .i64 ((p * 64:Nat):Int)))),(6,.one (.dat (.int .i64 (clsAt h p)))),(7,.one (.dat (.int .i64 ((p * 64 + i:Nat):Int))))] [.box [.dat (.sl 1 (h.Bytes.map encI)),.dat (.sl 1 (h.Class.map encI))]]) (64) _
   (Ent.wk [0]) ⟨0,by omega,by omega,fun j hj=>absurd hj (Nat.not_lt_zero j),rfl⟩ ?_
  rintro zn zs ⟨i,hi,rfl,hinv,rfl⟩ K hK
  rcases Nat.lt_or_ge i (64) with hlt | hge
  ·have hdi:decide ((i:Int) < ((64:Nat):Int))=true:=decide_eq_true (by omega)
   have hw:=wrap_succ hlt (show 64 <= maxLen by decide)
   have hdl:decide (((p * 64 + i:Nat):Int) < ((p * 64 + 64:Nat):Int))=true:=decide_eq_true (by omega)
   have hwi:IntKind.i64.wrap (((p * 64 + i:Nat):Int) + 1)=((p * 64 + (i + 1):Nat):Int):=by rw [wrap_id] <;> omega
   have hgi:=byte_get (b:=h.Bytes) (k:=p * 64 + i) (by omega)
   simp (maxSteps:=2000000) only [go_sem,seval,hdl,hw64,hwi,hgi,hl]
   refine scs ?_
   constructor <;> intro hr
   ·have h':h.Bytes.getD (p * 64 + i) 0 ≠ 0:=by simpa using hr
    apply hK
    simp (maxSteps:=2000000) only [go_sem,seval,hdl,hw64,hwi,hgi,hl]
    refine Fin.nt results131 [] ?_ ?_ ?_ <;> try trivial
    (refine rsl ?_;try exact .intro)
    simp only [pageOkM,hq,cond_true]
    exact (sub_not (by omega) hlt h').symm
   ·have h':h.Bytes.getD (p * 64 + i) 0=0:=by simpa using hr
    (apply hK
     exact ⟨64 - (i + 1),_,by omega,Ent.wk [0],i + 1,by omega,rfl,(fun j hj=>by rcases Nat.lt_succ_iff_lt_or_eq.1 hj with hj | rfl;exact hinv j hj;exact h'),rfl⟩)
  ·have hge':64=i:=by omega
   subst hge'
   have hdi:decide (((64:Nat):Int) < ((64:Nat):Int))=false:=by simp
   have hdl:decide (((p * 64 + 64:Nat):Int) < ((p * 64 + 64:Nat):Int))=false:=decide_eq_false (by omega)
   simp (maxSteps:=2000000) only [go_sem,seval,hw64,hdl]
   apply hK
   refine evl ?_
   refine Fin.nt results131 [] ?_ ?_ ?_ <;> try trivial
   (refine rsl ?_;try exact .intro)
   simp only [pageOkM,hq,cond_true]
   exact (sub_all (by omega) hinv).symm
 refine scs ?_
 refine ck e209 (c209 (clsAt h p)) rfl ?_
 simp (maxSteps:=2000000) only [go_sem,seval,hwa3]
 refine scs ?_
 constructor <;> intro hr
 ·have hh:headOkM h p=false:=by
   revert hr
   simp only [headOkM,bne]
   cases (h.Bytes.getD (p * 64) 0 == 171) <;> cases (h.Bytes.getD (p * 64 + 1) 0 == clsAt h p) <;> cases (h.Bytes.getD (p * 64 + 2) 0 == perPage (clsAt h p)) <;> cases (((h.Bytes.drop (p * 64 + 3)).take 5).all (fun x=>x == 0)) <;> simp
  refine Fin.nt results131 [] ?_ ?_ ?_ <;> try trivial
  (refine rsl ?_;try exact .intro)
  simp only [pageOkM,hq,hh,cond_false,Bool.false_and]
 have hh:headOkM h p=((h.Bytes.drop (p * 64 + 3)).take 5).all (fun x=>x == 0):=by
  revert hr
  simp only [headOkM,bne]
  cases (h.Bytes.getD (p * 64) 0 == 171) <;> cases (h.Bytes.getD (p * 64 + 1) 0 == clsAt h p) <;> cases (h.Bytes.getD (p * 64 + 2) 0 == perPage (clsAt h p)) <;> cases (((h.Bytes.drop (p * 64 + 3)).take 5).all (fun x=>x == 0)) <;> simp
 clear hr
 refine LoopK_intro (fun zn zs=>∃ i:Nat,i <= 5 /\ zn=5 - i /\ (∀ j,j < i -> h.Bytes.getD (p * 64 + 3 + j) 0=0) /\ zs=mkSt [(1,.one (.dat (.int .i64 (p:Int)))),(2,.one (.ptr (.own 0 0 0))),(5,.one (.dat (.int .i64 ((p * 64:Nat):Int)))),(6,.one (.dat (.int .i64 (clsAt h p)))),(8,.one (.dat (.int .i64 ((p * 64 + 3 + i:Nat):Int))))] [.box [.dat (.sl 1 (h.Bytes.map encI)),.dat (.sl 1 (h.Class.map encI))]]) (5) _
  (Ent.wk [0]) ⟨0,by omega,by omega,fun j hj=>absurd hj (Nat.not_lt_zero j),rfl⟩ ?_
 rintro zn zs ⟨i,hi,rfl,hinv,rfl⟩ K hK
 rcases Nat.lt_or_ge i (5) with hlt | hge
 ·have hdi:decide ((i:Int) < ((5:Nat):Int))=true:=decide_eq_true (by omega)
  have hw:=wrap_succ hlt (show 5 <= maxLen by decide)
  have hdl:decide (((p * 64 + 3 + i:Nat):Int) < ((p * 64 + 8:Nat):Int))=true:=decide_eq_true (by omega)
  have hwi:IntKind.i64.wrap (((p * 64 + 3 + i:Nat):Int) + 1)=((p * 64 + 3 + (i + 1):Nat):Int):=by rw [wrap_id] <;> omega
  have hgi:=byte_get (b:=h.Bytes) (k:=p * 64 + 3 + i) (by omega)
  simp (maxSteps:=2000000) only [go_sem,seval,hdl,hwa8,hwi,hgi,hl]
  refine scs ?_
  constructor <;> intro hr
  ·have h':h.Bytes.getD (p * 64 + 3 + i) 0 ≠ 0:=by simpa using hr
   apply hK
   simp (maxSteps:=2000000) only [go_sem,seval,hdl,hwa8,hwi,hgi,hl]
   refine Fin.nt results131 [] ?_ ?_ ?_ <;> try trivial
   (refine rsl ?_;try exact .intro)
   simp only [pageOkM,hq,hh,cond_false]
   rw [sub_not (by omega) hlt h',Bool.false_and]
  ·have h':h.Bytes.getD (p * 64 + 3 + i) 0=0:=by simpa using hr
   (apply hK
    exact ⟨5 - (i + 1),_,by omega,Ent.wk [0],i + 1,by omega,rfl,(fun j hj=>by rcases Nat.lt_succ_iff_lt_or_eq.1 hj with hj | rfl;exact hinv j hj;exact h'),rfl⟩)
 ·have hge':5=i:=by omega
  subst hge'
  have hdi:decide (((5:Nat):Int) < ((5:Nat):Int))=false:=by simp
  have hdl:decide (((p * 64 + 3 + 5:Nat):Int) < ((p * 64 + 8:Nat):Int))=false:=decide_eq_false (by omega)
  rw [sub_all (by omega) hinv] at hh
  simp (maxSteps:=2000000) only [go_sem,seval,hwa8,hdl]
  apply hK
  refine evl ?_
  have hm:pageOkM h p=pageGens h p (clsAt h p):=by simp only [pageOkM,hq,hh,cond_false,Bool.true_and]
  rw [hm]
  obtain ⟨k,t,hk,ht,hk4,ht4,hkt⟩:=page_nums (clsAt h p)
  clear hK hinv
  refine LoopK_intro (fun zn zs=>∃ i:Nat,i <= k /\ zn=k - i /\ (∀ j,j < i -> within (loadN h.Bytes (p * 64 + 8 + j * t) 4) 1 7=true) /\ zs=mkSt [(9,.one (.dat (.int .i64 i))),(1,.one (.dat (.int .i64 (p:Int)))),(2,.one (.ptr (.own 0 0 0))),(6,.one (.dat (.int .i64 (clsAt h p))))] [.box [.dat (.sl 1 (h.Bytes.map encI)),.dat (.sl 1 (h.Class.map encI))]]) (k) _
   (Ent.wk [0]) ⟨0,by omega,by omega,fun j hj=>absurd hj (Nat.not_lt_zero j),rfl⟩ ?_
  rintro zn zs ⟨i,hi,rfl,hinv,rfl⟩ K hK
  rcases Nat.lt_or_ge i (k) with hlt | hge
  ·have hdi:decide ((i:Int) < ((k:Nat):Int))=true:=decide_eq_true (by omega)
   have hw:=wrap_succ hlt (show k <= maxLen from Nat.le_trans hk4 (by decide))
   have hib:=hkt i hlt
   refine sv8 ?_
   refine ck e209 (c209 (clsAt h p)) rfl ?_
   refine sv8 ?_
   refine ck e211 (c211 (p:Int) (i:Int) (by omega) (by omega)) rfl ?_
   refine sv8 ?_
   refine ck e206 (c206 ((p:Int) * 4 + i) (clsAt h p)) rfl ?_
   refine sv8 ?_
   refine scs ?_
   refine ck e205 (c205 h.Bytes (by omega) _ (p * 64 + 8 + i * t) (slot_gen hp hk ht hk4 hlt) 4 4 rfl (by decide) (by omega) hb) rfl ?_
   refine sv8 ?_
   refine scs ?_
   refine ck e67 (c67 (loadN h.Bytes (p * 64 + 8 + i * t) 4) 1 7) rfl ?_
   refine sv8 ?_
   constructor <;> intro hq
   ·have h':within (loadN h.Bytes (p * 64 + 8 + i * t) 4) 1 7=false:=by simpa using hq
    apply hK
    refine sv8 ?_
    refine Fin.nt results131 [] ?_ ?_ ?_ <;> try trivial
    (refine rsl ?_;try exact .intro)
    exact (pageGens_false hk ht hlt h').symm
   ·have h':within (loadN h.Bytes (p * 64 + 8 + i * t) 4) 1 7=true:=by simpa using hq
    (apply hK
     exact ⟨k - (i + 1),_,by omega,Ent.wk [0],i + 1,by omega,rfl,(fun j hj=>by rcases Nat.lt_succ_iff_lt_or_eq.1 hj with hj | rfl;exact hinv j hj;exact h'),rfl⟩)
  ·have hge':k=i:=by omega
   subst hge'
   have hdi:decide (((k:Nat):Int) < ((k:Nat):Int))=false:=by simp
   simp (maxSteps:=2000000) only [go_sem,seval,hk]
   refine ck e209 (c209 (clsAt h p)) rfl ?_
   simp (maxSteps:=2000000) only [go_sem,seval,hk,hdi]
   apply hK
   refine evl ?_
   refine Fin.nt results131 [] ?_ ?_ ?_ <;> try trivial
   (refine rsl ?_;try exact .intro)
   exact (pageGens_true hk ht hinv).symm
theorem heapOk_true {h:Heap} (hs:shapedM h=true) (ha:∀ j,j < 6 -> pageOkM h j=true):heapOk h=true:=by
 simp only [heapOk,hs,Bool.true_and,List.all_eq_true,List.mem_range]
 exact ha
theorem heapOk_false {h:Heap} {i:Nat} (hi:i < 6) (ha:pageOkM h i=false):heapOk h=false:=by
 have:(List.range 6).all (pageOkM h)=false:=by
  simp only [List.all_eq_false,List.mem_range]
  exact ⟨i,hi,by rw [ha];decide⟩
 simp only [heapOk,this,Bool.and_false]
theorem heapOk_shaped {h:Heap} (ho:heapOk h=true):shapedM h=true:=by
 simp only [heapOk,Bool.and_eq_true] at ho;exact ho.1
def clsN (h:Heap) (s:Int):Int:=clsAt h (s / 4).toNat
def classInM (h:Heap) (s:Int):Int:=if 0 <= s /\ s <= 23 /\ s % 4 < perPage (clsN h s) then clsN h s else -1
theorem classInM_out {h:Heap} {s:Int} (hn:¬ (0 <= s /\ s <= 23)):classInM h s=-1:=if_neg (fun h=>hn ⟨h.1,h.2.1⟩)
theorem classInM_no {h:Heap} {s:Int} (hn:¬ s % 4 < perPage (clsN h s)):classInM h s=-1:=if_neg (fun h=>hn h.2.2)
theorem classInM_yes {h:Heap} {s:Int} (h0:0 <= s) (h1:s <= 23) (hn:s % 4 < perPage (clsN h s)):classInM h s=clsN h s:=if_pos ⟨h0,h1,hn⟩
theorem perPage_neg {c:Int} (h:c < 0):perPage c=0:=by
 rcases class_cases c with rfl | rfl | rfl | ⟨_,_,_,e⟩
 ·omega
 ·omega
 ·omega
 ·exact e
theorem genAt_lt {s c:Int} (h0:0 <= s) (h1:s <= 23):(genAt s c < 0) ↔ ¬ s % 4 < perPage c:=by
 have ht:=stride_le c
 constructor
 ·intro hg hn
  rw [genAt_pos h0 h1 hn] at hg
  have:0 <= s % 4 * strideOf c:=Int.mul_nonneg (by omega) ht.1
  omega
 ·intro hn
  rw [genAt_neg (fun h=>hn h.2.2)]
  decide
theorem slot_nat {s:Int} (h0:0 <= s) (h1:s <= 23):∃ n:Nat,s=n /\ n < 24 /\ (s / 4).toNat=n / 4:=⟨s.toNat,by omega,by omega,by omega⟩
theorem c108 (h:Heap) (hz:sizHeap h <= 1048576):Ctr prog 108 [.agg ((encHeap h).map .dat)] [] (.one (.dat (.bool (heapOk h)))) []:=by
 have hcs:=c195 h hz
 have hcp:=c196 h hz
 simp only [encHeap,List.map_cons,List.map_nil] at hcs hcp ⊢
 refine Ctr.bd mixed func108 rfl ?_
 refine evl ?_
 refine scs ?_
 refine ck e195 (hcs) rfl ?_
 refine evl ?_
 constructor <;> intro hq
 ·have hs:shapedM h=false:=by simpa using hq
  refine Fin.nt results108 [] ?_ ?_ ?_ <;> try trivial
  (refine rsl ?_;try exact .intro)
  simp only [heapOk,hs,Bool.false_and]
 have hs:shapedM h=true:=by simpa using hq
 refine LoopK_intro (fun zn zs=>∃ i:Nat,i <= 6 /\ zn=6 - i /\ (∀ j,j < i -> pageOkM h j=true) /\ zs=mkSt [(7,.one (.dat (.int .i64 i))),(1,.one (.ptr (.own 0 0 0)))] [.box [.dat (.sl 1 (h.Bytes.map encI)),.dat (.sl 1 (h.Class.map encI))]]) (6) _
  (Ent.wk [0]) ⟨0,by omega,by omega,fun j hj=>absurd hj (Nat.not_lt_zero j),rfl⟩ ?_
 rintro zn zs ⟨i,hi,rfl,hinv,rfl⟩ K hK
 rcases Nat.lt_or_ge i (6) with hlt | hge
 ·have hdi:decide ((i:Int) < ((6:Nat):Int))=true:=decide_eq_true (by omega)
  have hw:=wrap_succ hlt (show 6 <= maxLen by decide)
  have hd6:decide ((i:Int) < 6)=true:=decide_eq_true (by omega)
  refine sv9 ?_
  refine ck e196 (hcp hs (i:Int) i rfl hlt) rfl ?_
  refine sv9 ?_
  constructor <;> intro hq
  ·have h':pageOkM h i=false:=by simpa using hq
   apply hK
   refine sv9 ?_
   refine Fin.nt results108 [] ?_ ?_ ?_ <;> try trivial
   (refine rsl ?_;try exact .intro)
   exact (heapOk_false hlt h').symm
  ·have h':pageOkM h i=true:=by simpa using hq
   (apply hK
    exact ⟨6 - (i + 1),_,by omega,Ent.wk [0],i + 1,by omega,rfl,(fun j hj=>by rcases Nat.lt_succ_iff_lt_or_eq.1 hj with hj | rfl;exact hinv j hj;exact h'),rfl⟩)
 ·have hge':6=i:=by omega
  subst hge'
  have hdi:decide (((6:Nat):Int) < ((6:Nat):Int))=false:=by simp
  have hd6:decide (((6:Nat):Int) < 6)=false:=rfl
  refine sv5 ?_
  apply hK
  refine evl ?_
  refine Fin.nt results108 [] ?_ ?_ ?_ <;> try trivial
  (refine rsl ?_;try exact .intro)
  exact (heapOk_true hs hinv).symm
theorem c53 (h:Heap) (hz:sizHeap h <= 1048576):Ctr prog 53 [.agg ((encHeap h).map .dat)] [] (.one (.dat (.bool (heapOk h)))) []:=by
 have hcs:=c130 h hz
 have hcp:=c131 h hz
 simp only [encHeap,List.map_cons,List.map_nil] at hcs hcp ⊢
 refine Ctr.bd mixed func53 rfl ?_
 refine evl ?_
 refine scs ?_
 refine ck e130 (hcs) rfl ?_
 refine evl ?_
 constructor <;> intro hq
 ·have hs:shapedM h=false:=by simpa using hq
  refine Fin.nt results53 [] ?_ ?_ ?_ <;> try trivial
  (refine rsl ?_;try exact .intro)
  simp only [heapOk,hs,Bool.false_and]
 have hs:shapedM h=true:=by simpa using hq
 refine LoopK_intro (fun zn zs=>∃ i:Nat,i <= 6 /\ zn=6 - i /\ (∀ j,j < i -> pageOkM h j=true) /\ zs=mkSt [(3,.one (.dat (.int .i64 i))),(1,.one (.ptr (.own 0 0 0)))] [.box [.dat (.sl 1 (h.Bytes.map encI)),.dat (.sl 1 (h.Class.map encI))]]) (6) _
  (Ent.wk [0]) ⟨0,by omega,by omega,fun j hj=>absurd hj (Nat.not_lt_zero j),rfl⟩ ?_
 rintro zn zs ⟨i,hi,rfl,hinv,rfl⟩ K hK
 rcases Nat.lt_or_ge i (6) with hlt | hge
 ·have hdi:decide ((i:Int) < ((6:Nat):Int))=true:=decide_eq_true (by omega)
  have hw:=wrap_succ hlt (show 6 <= maxLen by decide)
  have hd6:decide ((i:Int) < 6)=true:=decide_eq_true (by omega)
  refine sv9 ?_
  refine ck e131 (hcp hs (i:Int) i rfl hlt) rfl ?_
  refine sv9 ?_
  constructor <;> intro hq
  ·have h':pageOkM h i=false:=by simpa using hq
   apply hK
   refine sv9 ?_
   refine Fin.nt results53 [] ?_ ?_ ?_ <;> try trivial
   (refine rsl ?_;try exact .intro)
   exact (heapOk_false hlt h').symm
  ·have h':pageOkM h i=true:=by simpa using hq
   (apply hK
    exact ⟨6 - (i + 1),_,by omega,Ent.wk [0],i + 1,by omega,rfl,(fun j hj=>by rcases Nat.lt_succ_iff_lt_or_eq.1 hj with hj | rfl;exact hinv j hj;exact h'),rfl⟩)
 ·have hge':6=i:=by omega
  subst hge'
  have hdi:decide (((6:Nat):Int) < ((6:Nat):Int))=false:=by simp
  have hd6:decide (((6:Nat):Int) < 6)=false:=rfl
  refine sv5 ?_
  apply hK
  refine evl ?_
  refine Fin.nt results53 [] ?_ ?_ ?_ <;> try trivial
  (refine rsl ?_;try exact .intro)
  exact (heapOk_true hs hinv).symm
theorem c114 (h:Heap) (hlc:h.Class.length=6) (s:Int):Ctr prog 114 [.agg ((encHeap h).map .dat),.one (.dat (.int .i64 s))] [] (.one (.dat (.int .i64 (classInM h s)))) []:=by
 simp only [encHeap,List.map_cons,List.map_nil]
 rcases slot_cases s with ⟨h1,h2,hw⟩ | ⟨h1,hw⟩
 ·obtain ⟨n,rfl,hn,e4⟩:=slot_nat h1 h2
  have hcn:clsN h (n:Int)=clsAt h (n / 4):=by rw [clsN,e4]
  have hdv:Int.tdiv (n:Int) 4=((n / 4:Nat):Int):=by rw [Int.tdiv_eq_ediv_of_nonneg (by omega)];omega
  have hdw:IntKind.i64.wrap ((n / 4:Nat):Int)=((n / 4:Nat):Int):=by rw [wrap_id] <;> omega
  refine Ctr.bd mixed func114 rfl ?_
  refine evl ?_
  refine scs ?_
  refine ck e198 (c198 (n:Int)) rfl ?_
  rw [hw]
  simp (maxSteps:=2000000) only [go_sem,seval,hdv,hdw,Int.toNat_natCast,cls_get hlc (show n / 4 < 6 by omega),hlc]
  refine scs ?_
  refine ck e202 (c202 (n:Int) (clsAt h (n / 4))) rfl ?_
  simp (maxSteps:=2000000) only [go_sem,seval,hdv,hdw,Int.toNat_natCast,cls_get hlc (show n / 4 < 6 by omega),hlc]
  refine scs ?_
  constructor <;> intro hq
  ·refine Fin.nt results114 [] ?_ ?_ ?_ <;> try trivial
   (refine rsl ?_;try exact .intro)
   have hq:=of_decide_eq_true hq
   exact (classInM_no (by rw [hcn];exact (genAt_lt h1 h2).1 hq)).symm
  ·refine scs ?_
   refine Fin.nt results114 [] ?_ ?_ ?_ <;> try trivial
   (refine rsl ?_;try exact .intro)
   have hq:=of_decide_eq_false hq
   rw [classInM_yes h1 h2 (by rw [hcn];exact Decidable.not_not.1 (fun hx=>hq ((genAt_lt h1 h2).2 hx))),hcn]
 ·refine Ctr.bd mixed func114 rfl ?_
  refine evl ?_
  refine scs ?_
  refine ck e198 (c198 s) rfl ?_
  rw [hw]
  refine evl ?_
  refine scs ?_
  first | refine CCallK_of (.one (.dat (.int .i64 0))) ?_ | refine CCallK_og (.one (.dat (.int .i64 0))) ?_
  refine evl ?_
  refine scs ?_
  refine Fin.nt results114 [] ?_ ?_ ?_ <;> try trivial
  (refine rsl ?_;try exact .intro)
  exact (classInM_out h1).symm
theorem c123 (h:Heap) (hlc:h.Class.length=6) (s:Int):Ctr prog 123 [.agg ((encHeap h).map .dat),.one (.dat (.int .i64 s))] [] (.one (.dat (.int .i64 (classInM h s)))) []:=by
 simp only [encHeap,List.map_cons,List.map_nil]
 rcases slot_cases s with ⟨h1,h2,hw⟩ | ⟨h1,hw⟩
 ·obtain ⟨n,rfl,hn,e4⟩:=slot_nat h1 h2
  have hcn:clsN h (n:Int)=clsAt h (n / 4):=by rw [clsN,e4]
  have hpg:pageOf (n:Int)=((n / 4:Nat):Int):=by simp only [pageOf,if_pos (And.intro h1 h2)];omega
  have hix:indexOf (n:Int)=(n:Int) % 4:=by simp only [indexOf,if_pos (And.intro h1 h2)]
  have hdn:decide (((n / 4:Nat):Int) < 0)=false:=decide_eq_false (by omega)
  refine Ctr.bd mixed func123 rfl ?_
  refine evl ?_
  refine scs ?_
  refine ck e207 (c207 (n:Int)) rfl ?_
  rw [hpg]
  refine sv10 ?_
  refine scs ?_
  refine ck e208 (c208 (n:Int)) rfl ?_
  rw [hix]
  refine sv10 ?_
  refine scs ?_
  refine ck e209 (c209 (clsAt h (n / 4))) rfl ?_
  refine sv10 ?_
  refine scs ?_
  constructor <;> intro hq
  ·refine Fin.nt results123 [] ?_ ?_ ?_ <;> try trivial
   (refine rsl ?_;try exact .intro)
   refine (classInM_no ?_).symm
   rw [hcn]
   intro hlt
   have hc0:¬ clsAt h (n / 4) < 0:=fun hx=>by rw [perPage_neg hx] at hlt;omega
   simp only [decide_eq_false hc0,cond_false,decide_eq_true_eq] at hq
   omega
  ·refine scs ?_
   refine Fin.nt results123 [] ?_ ?_ ?_ <;> try trivial
   (refine rsl ?_;try exact .intro)
   rw [classInM_yes h1 h2,hcn]
   rw [hcn]
   by_cases hc0:clsAt h (n / 4) < 0
   ·simp [hc0] at hq
   ·simp only [decide_eq_false hc0,cond_false,decide_eq_false_iff_not] at hq
    omega
 ·have hpg:pageOf s=-1:=by simp only [pageOf,if_neg h1]
  refine Ctr.bd mixed func123 rfl ?_
  refine evl ?_
  refine scs ?_
  refine ck e207 (c207 s) rfl ?_
  rw [hpg]
  refine sv11 ?_
  refine scs ?_
  first | refine CCallK_of (.one (.dat (.int .i64 0))) ?_ | refine CCallK_og (.one (.dat (.int .i64 0))) ?_
  refine sv11 ?_
  refine scs ?_
  first | refine CCallK_of (.one (.dat (.int .i64 0))) ?_ | refine CCallK_og (.one (.dat (.int .i64 0))) ?_
  refine sv11 ?_
  refine scs ?_
  refine Fin.nt results123 [] ?_ ?_ ?_ <;> try trivial
  (refine rsl ?_;try exact .intro)
  exact (classInM_out h1).symm
def classAtM (h:Heap) (s:Int):Int:=if shapedM h=true then classInM h s else -1
def genInM (h:Heap) (s:Int):Int:=loadN h.Bytes (genAt s (classInM h s)).toNat 4
def genOfM (h:Heap) (s:Int):Int:=if classAtM h s < 0 then 0 else genInM h s
theorem clsN_bound {h:Heap} {s:Int} (hs:shapedM h=true) (h0:0 <= s) (h1:s <= 23):-1 <= clsN h s /\ clsN h s <= 2:=cls_mem hs (by omega)
theorem classInM_bound {h:Heap} {s:Int} (hs:shapedM h=true) (hc:0 <= classInM h s):0 <= s /\ s <= 23 /\ s % 4 < perPage (classInM h s) /\ classInM h s <= 2 /\ 0 <= genAt s (classInM h s) /\ genAt s (classInM h s) + 4 + sizeOf (classInM h s) <= 384:=by
 unfold classInM at hc ⊢
 split at hc
 ·rename_i hx
  rw [if_pos hx]
  have hb:=clsN_bound hs hx.1 hx.2.1
  have hg:0 <= genAt s (clsN h s):=by
   have:¬ genAt s (clsN h s) < 0:=fun hy=>(genAt_lt hx.1 hx.2.1).1 hy hx.2.2
   omega
  exact ⟨hx.1,hx.2.1,hx.2.2,hb.2,hg,(genAt_bound hg).2.2.2.2.2⟩
 ·omega
theorem sizeOf_pos (c:Int):0 <= sizeOf c /\ sizeOf c <= 40:=by
 unfold sizeOf;repeat' split
 all_goals omega
theorem c278 (h:Heap) (hz:sizHeap h <= 1048576) (s:Int):Ctr prog 278 [.agg ((encHeap h).map .dat),.one (.dat (.int .i64 s))] [] (.one (.dat (.int .i64 (classAtM h s)))) []:=by
 have hcs:=c195 h hz
 have hcc:=fun hs=>c114 h (shaped_iff hs).2.2.1 s
 simp only [encHeap,List.map_cons,List.map_nil] at hcs hcc ⊢
 refine Ctr.bd mixed func278 rfl ?_
 refine evl ?_
 refine scs ?_
 refine ck e195 (hcs) rfl ?_
 refine evl ?_
 constructor <;> intro hq
 ·have hs:shapedM h=false:=by simpa using hq
  refine Fin.nt results278 [] ?_ ?_ ?_ <;> try trivial
  (refine rsl ?_;try exact .intro)
  simp [classAtM,hs]
 have hs:shapedM h=true:=by simpa using hq
 refine ck e114 (hcc hs) rfl ?_
 refine evl ?_
 refine Fin.nt results278 [] ?_ ?_ ?_ <;> try trivial
 (refine rsl ?_;try exact .intro)
 simp [classAtM,hs]
theorem c319 (h:Heap) (hz:sizHeap h <= 1048576) (s:Int):Ctr prog 319 [.agg ((encHeap h).map .dat),.one (.dat (.int .i64 s))] [] (.one (.dat (.int .i64 (classAtM h s)))) []:=by
 have hcs:=c130 h hz
 have hcc:=fun hs=>c123 h (shaped_iff hs).2.2.1 s
 simp only [encHeap,List.map_cons,List.map_nil] at hcs hcc ⊢
 refine Ctr.bd mixed func319 rfl ?_
 refine evl ?_
 refine scs ?_
 refine ck e130 (hcs) rfl ?_
 refine evl ?_
 constructor <;> intro hq
 ·have hs:shapedM h=false:=by simpa using hq
  refine Fin.nt results319 [] ?_ ?_ ?_ <;> try trivial
  (refine rsl ?_;try exact .intro)
  simp [classAtM,hs]
 have hs:shapedM h=true:=by simpa using hq
 refine ck e123 (hcc hs) rfl ?_
 refine evl ?_
 refine Fin.nt results319 [] ?_ ?_ ?_ <;> try trivial
 (refine rsl ?_;try exact .intro)
 simp [classAtM,hs]
theorem c121 (h:Heap) (hs:shapedM h=true) (s:Int) (hc:0 <= classInM h s):Ctr prog 121 [.agg ((encHeap h).map .dat),.one (.dat (.int .i64 s))] [] (.one (.dat (.int .i64 (genInM h s)))) []:=by
 obtain ⟨hl,hb,hlc,_⟩:=shaped_iff hs
 have hbd:=classInM_bound hs hc
 have hsz:=sizeOf_pos (classInM h s)
 have hcc:=c123 h hlc s
 simp only [encHeap,List.map_cons,List.map_nil] at hcc ⊢
 refine Ctr.bd mixed func121 rfl ?_
 refine evl ?_
 refine scs ?_
 refine ck e123 (hcc) rfl ?_
 refine evl ?_
 refine ck e206 (c206 s (classInM h s)) rfl ?_
 refine evl ?_
 refine ck e205 (c205 h.Bytes (by omega) _ (genAt s (classInM h s)).toNat (by omega) 4 4 rfl (by decide) (by omega) hb) rfl ?_
 refine evl ?_
 refine Fin.nt results121 [] ?_ ?_ ?_ <;> try trivial
theorem c199 (h:Heap) (hz:sizHeap h <= 1048576) (s:Int):Ctr prog 199 [.agg ((encHeap h).map .dat),.one (.dat (.int .i64 s))] [] (.one (.dat (.int .i64 (genOfM h s)))) []:=by
 have hcs:=c278 h hz s
 simp only [encHeap,List.map_cons,List.map_nil] at hcs ⊢
 refine Ctr.bd mixed func199 rfl ?_
 refine evl ?_
 refine scs ?_
 refine ck e278 (hcs) rfl ?_
 refine evl ?_
 constructor <;> intro hq
 ·refine Fin.nt results199 [] ?_ ?_ ?_ <;> try trivial
  (refine rsl ?_;try exact .intro)
  simp [genOfM,of_decide_eq_true hq]
 have hq:=of_decide_eq_false hq
 have hs:shapedM h=true:=by
  refine Decidable.byContradiction fun hn=>hq ?_
  simp [classAtM,hn]
 have hci:classAtM h s=classInM h s:=by simp [classAtM,hs]
 obtain ⟨hl,hb,hlc,_⟩:=shaped_iff hs
 have hbd:=classInM_bound (s:=s) hs (by omega)
 have hsz:=sizeOf_pos (classInM h s)
 rw [hci]
 refine scs ?_
 refine ck e202 (c202 s (classInM h s)) rfl ?_
 refine evl ?_
 refine ck e138 (c138 h.Bytes (by omega) _ (genAt s (classInM h s)).toNat (by omega) 4 4 rfl (by decide) (by omega) hb) rfl ?_
 refine evl ?_
 refine Fin.nt results199 [] ?_ ?_ ?_ <;> try trivial
 (refine rsl ?_;try exact .intro)
 rw [genOfM,if_neg hq,genInM]
end Go.Proofs.YtcnddedeeplbcaaGreat.Mod
