/- Contracts: Sl2. -/
import Derived.Test.YtebinioiggfplaaGreatRows
import Derived.Test.YtebinioiggfplaaGreatBTy
import Derived.Test.YtebinioiggfplaaGreatAbsTac
import Derived.Test.YtebinioiggfplaaGreatAbsData
import Derived.Test.YtebinioiggfplaaGreatBFam2
import Derived.Test.YtebinioiggfplaaGreatBSl
import Derived.WalkKit
import Derived.ProofKit
import Derived.OpenShut
namespace Go.Proofs.YtebinioiggfplaaGreat.Mod
open Go.Proofs.Tryz Go.Abs Go.Proofs.YtebinioiggfplaaGreat.Ty Go.ChangeShapes Go.WideShapes Go.ChangeAt Go.RowKit
set_option linter.unusedSimpArgs false
set_option linter.unusedVariables false
set_option maxHeartbeats 8000000
set_option maxRecDepth 100000
theorem ixF_any {α : Type} (p : α -> Bool) (l : List α) : decide (0 <= ixF p l) = l.any p := by
 rcases ixF_cases p l with ⟨e, hno⟩ | ⟨i, hi, e, hp, _⟩
 ·rw [e]
  symm
  have : l.any p = false := by
   rw [List.any_eq_false]
   intro x hx
   obtain ⟨j, hj, rfl⟩ := List.getElem_of_mem hx
   simp [hno j hj]
  rw [this]; rfl
 ·rw [e]
  have : l.any p = true := List.any_eq_true.2 ⟨_, List.getElem_mem hi, hp⟩
  rw [this]; simp
theorem c272 (l : List Int) (hl : l.length <= maxLen) (v : Int) : Ctr prog 272 [.one (.dat (.sl 1 (l.map encI))), .one (.dat (.int .i64 v))] [] (.one (.dat (.int .i64 (ixF (fun x => x == v) l)))) [] := by
 refine Ctr.bd mixed func272 rfl ?_
 refine evl ?_
 refine LoopK_intro (fun zn zs => ∃ i : Nat, i <= l.length /\ zn = l.length - i /\ (∀ j (hj : j < l.length), j < i -> (l[j] == v) = false) /\ zs = mkSt [(8, .one (.dat (.int .i64 i))), (7, .one (.dat (.int .i64 (l.length)))), (0, .one (.dat (.sl 1 (l.map encI)))), (1, .one (.dat (.int .i64 v)))] []) (l.length) _
  (Ent.wk []) ⟨0, by omega, by omega, by simp, rfl⟩ ?_
 rintro zn zs ⟨i, hi, rfl, hinv, rfl⟩ K hK
 rcases Nat.lt_or_ge i (l.length) with hlt | hge
 ·have hdi : decide ((i : Int) < ((l.length : Nat) : Int)) = true := decide_eq_true (by omega)
  have hw := wrap_succ hlt hl
  refine sv10 ?_
  refine ⟨⟨by omega, by omega⟩, hlt, ?_⟩
  constructor <;> intro h
  ·apply hK
   refine evl ?_
   refine Fin.nt results272 [] ?_ ?_ ?_ <;> try trivial
   (refine rsl ?_; try exact .intro)
   exact (ixF_some (p := fun x => x == v) hlt (BEq.comm.trans h) hinv).symm
  ·(apply hK
    exact ⟨l.length - (i + 1), _, by omega, Ent.wk [], i + 1, by omega, rfl, fun j hj hji => if e : j = i then by subst e; exact BEq.comm.trans h else hinv j hj (by omega), rfl⟩)
 ·have hge' : l.length = i := by omega
  subst hge'
  have hdi : decide (((l.length : Nat) : Int) < ((l.length : Nat) : Int)) = false := by simp
  refine sv3 ?_
  apply hK
  refine evl ?_
  refine Fin.nt results272 [] ?_ ?_ ?_ <;> try trivial
  (refine rsl ?_; try exact .intro)
  exact (ixF_none fun j hj => hinv j hj hj).symm
theorem c263 (l : List Int) (hl : l.length <= maxLen) (v : Int) : Ctr prog 263 [.one (.dat (.sl 1 (l.map encI))), .one (.dat (.int .i64 v))] [] (.one (.dat (.bool (l.any fun x => x == v)))) [] := by
 refine Ctr.bd mixed func263 rfl ?_
 refine evl ?_
 refine CallK_pure e272 (c272 l hl v) rfl ?_
 refine evl ?_
 refine Fin.nt results263 [] ?_ ?_ ?_ <;> try trivial
 (refine rsl ?_; try exact .intro)
 exact ixF_any _ l
theorem c143_k0 (l : List Int) (hl : l.length <= maxLen) {fid : FuncId} {p : Int -> Bool} (he : enters prog fid = true)
  (hp : ∀ x ∈ l, Ctr prog fid [.one (.dat (.int .i64 x))] [] (.one (.dat (.bool (p x)))) []) : Ctr prog 143 [.one (.dat (.sl 1 (l.map encI))), .one (.fn fid [])] [] (.one (.dat (.int .i64 (ixF p l)))) [] := by
 refine Ctr.bd mixed func143 rfl ?_
 refine evl ?_
 refine LoopK_intro (fun n s => ∃ i : Nat, i <= l.length /\ n = l.length - i /\ (∀ j (hj : j < l.length), j < i -> p l[j] = false) /\ s = mkSt [(8, .one (.dat (.int .i64 i))), (7, .one (.dat (.int .i64 l.length))), (1, .one (.fn fid [])), (0, .one (.dat (.sl 1 (l.map encI))))] []) l.length _
  (Ent.wk []) ⟨0, by omega, by omega, by simp, rfl⟩ ?_
 rintro n s ⟨i, hi, rfl, ht, rfl⟩ K hK
 refine evl ?_
 constructor <;> intro h
 ·have hlt : i < l.length := by simpa using h
  have hw := wrap_succ hlt hl
  refine ⟨⟨by omega, by omega⟩, hlt, ?_⟩
  have hpx := hp l[i] (List.getElem_mem hlt)
  simp only [getD_map hlt, encI, List.map_cons, List.map_nil, List.take_succ_cons, List.take_zero, List.getD_cons_zero] at hpx ⊢
  refine CallK_pure he hpx rfl ?_
  refine sv0 ?_
  constructor <;> intro h
  ·apply hK
   refine evl ?_
   refine Fin.nt results143 [] ?_ ?_ ?_ <;> try trivial
   (refine rsl ?_; try exact .intro)
   exact (ixF_some hlt h ht).symm
  ·apply hK
   refine ⟨l.length - (i + 1), _, by omega, Ent.wk [], i + 1, by omega, rfl, fun j hj hji => ?_, rfl⟩
   by_cases e : j = i
   ·subst e; exact h
   ·exact ht j hj (by omega)
 ·have hge : i = l.length := by simp at h; omega
  subst hge
  apply hK
  refine evl ?_
  refine Fin.nt results143 [] ?_ ?_ ?_ <;> try trivial
  (refine rsl ?_; try exact .intro)
  exact (ixF_none fun j hj => ht j hj hj).symm
theorem c75_k0 (l : List Int) (hl : l.length <= maxLen) {fid : FuncId} {p : Int -> Bool} (he : enters prog fid = true)
  (hp : ∀ x ∈ l, Ctr prog fid [.one (.dat (.int .i64 x))] [] (.one (.dat (.bool (p x)))) []) : Ctr prog 75 [.one (.dat (.sl 1 (l.map encI))), .one (.fn fid [])] [] (.one (.dat (.bool (l.any p)))) [] := by
 refine Ctr.bd mixed func75 rfl ?_
 refine evl ?_
 refine CallK_pure e143 (c143_k0 l hl he hp) rfl ?_
 refine evl ?_
 refine Fin.nt results75 [] ?_ ?_ ?_ <;> try trivial
 (refine rsl ?_; try exact .intro)
 exact ixF_any p l
theorem c273_k1 (l : List SList) (hl : l.length <= maxLen) {fid : FuncId} {m : Nat} {r : List D} {p : SList -> Bool} (he : enters prog fid = true)
  (hp : ∀ x ∈ l, Ctr prog fid [.agg ((encSList x).map .dat), .one (.ptr (.ro m [r] 0 0))] [] (.one (.dat (.bool (p x)))) []) : Ctr prog 273 [.one (.dat (.sl 1 (l.map encSList))), .one (.fn fid [.ro m [r] 0 0])] [] (.one (.dat (.int .i64 (ixF p l)))) [] := by
 refine Ctr.bd mixed func273 rfl ?_
 refine evl ?_
 refine LoopK_intro (fun n s => ∃ i : Nat, i <= l.length /\ n = l.length - i /\ (∀ j (hj : j < l.length), j < i -> p l[j] = false) /\ s = mkSt [(8, .one (.dat (.int .i64 i))), (7, .one (.dat (.int .i64 l.length))), (1, .one (.fn fid [.ro m [r] 0 0])), (0, .one (.dat (.sl 1 (l.map encSList))))] []) l.length _
  (Ent.wk []) ⟨0, by omega, by omega, by simp, rfl⟩ ?_
 rintro n s ⟨i, hi, rfl, ht, rfl⟩ K hK
 refine evl ?_
 constructor <;> intro h
 ·have hlt : i < l.length := by simpa using h
  have hw := wrap_succ hlt hl
  refine ⟨⟨by omega, by omega⟩, hlt, ?_⟩
  have hpx := hp l[i] (List.getElem_mem hlt)
  simp only [getD_map hlt, encSList, List.map_cons, List.map_nil, List.take_succ_cons, List.take_zero, List.getD_cons_zero] at hpx ⊢
  refine CallK_pure he hpx rfl ?_
  refine sv0 ?_
  constructor <;> intro h
  ·apply hK
   refine evl ?_
   refine Fin.nt results273 [] ?_ ?_ ?_ <;> try trivial
   (refine rsl ?_; try exact .intro)
   exact (ixF_some hlt h ht).symm
  ·apply hK
   refine ⟨l.length - (i + 1), _, by omega, Ent.wk [], i + 1, by omega, rfl, fun j hj hji => ?_, rfl⟩
   by_cases e : j = i
   ·subst e; exact h
   ·exact ht j hj (by omega)
 ·have hge : i = l.length := by simp at h; omega
  subst hge
  apply hK
  refine evl ?_
  refine Fin.nt results273 [] ?_ ?_ ?_ <;> try trivial
  (refine rsl ?_; try exact .intro)
  exact (ixF_none fun j hj => ht j hj hj).symm
theorem c264_k1 (l : List SList) (hl : l.length <= maxLen) {fid : FuncId} {m : Nat} {r : List D} {p : SList -> Bool} (he : enters prog fid = true)
  (hp : ∀ x ∈ l, Ctr prog fid [.agg ((encSList x).map .dat), .one (.ptr (.ro m [r] 0 0))] [] (.one (.dat (.bool (p x)))) []) : Ctr prog 264 [.one (.dat (.sl 1 (l.map encSList))), .one (.fn fid [.ro m [r] 0 0])] [] (.one (.dat (.bool (l.any p)))) [] := by
 refine Ctr.bd mixed func264 rfl ?_
 refine evl ?_
 refine CallK_pure e273 (c273_k1 l hl he hp) rfl ?_
 refine evl ?_
 refine Fin.nt results264 [] ?_ ?_ ?_ <;> try trivial
 (refine rsl ?_; try exact .intro)
 exact ixF_any p l
theorem c236_k1 (l : List Pin) (hl : l.length <= maxLen) {fid : FuncId} {m : Nat} {r : List D} {p : Pin -> Bool} (he : enters prog fid = true)
  (hp : ∀ x ∈ l, Ctr prog fid [.agg ((encPin x).map .dat), .one (.ptr (.ro m [r] 0 0))] [] (.one (.dat (.bool (p x)))) []) : Ctr prog 236 [.one (.dat (.sl 4 (l.map encPin))), .one (.fn fid [.ro m [r] 0 0])] [] (.one (.dat (.int .i64 (ixF p l)))) [] := by
 refine Ctr.bd mixed func236 rfl ?_
 refine evl ?_
 refine LoopK_intro (fun n s => ∃ i : Nat, i <= l.length /\ n = l.length - i /\ (∀ j (hj : j < l.length), j < i -> p l[j] = false) /\ s = mkSt [(8, .one (.dat (.int .i64 i))), (7, .one (.dat (.int .i64 l.length))), (1, .one (.fn fid [.ro m [r] 0 0])), (0, .one (.dat (.sl 4 (l.map encPin))))] []) l.length _
  (Ent.wk []) ⟨0, by omega, by omega, by simp, rfl⟩ ?_
 rintro n s ⟨i, hi, rfl, ht, rfl⟩ K hK
 refine evl ?_
 constructor <;> intro h
 ·have hlt : i < l.length := by simpa using h
  have hw := wrap_succ hlt hl
  refine ⟨⟨by omega, by omega⟩, hlt, ?_⟩
  have hpx := hp l[i] (List.getElem_mem hlt)
  simp only [getD_map hlt, encPin, List.map_cons, List.map_nil, List.take_succ_cons, List.take_zero, List.getD_cons_zero] at hpx ⊢
  refine CallK_pure he hpx rfl ?_
  refine sv0 ?_
  constructor <;> intro h
  ·apply hK
   refine evl ?_
   refine Fin.nt results236 [] ?_ ?_ ?_ <;> try trivial
   (refine rsl ?_; try exact .intro)
   exact (ixF_some hlt h ht).symm
  ·apply hK
   refine ⟨l.length - (i + 1), _, by omega, Ent.wk [], i + 1, by omega, rfl, fun j hj hji => ?_, rfl⟩
   by_cases e : j = i
   ·subst e; exact h
   ·exact ht j hj (by omega)
 ·have hge : i = l.length := by simp at h; omega
  subst hge
  apply hK
  refine evl ?_
  refine Fin.nt results236 [] ?_ ?_ ?_ <;> try trivial
  (refine rsl ?_; try exact .intro)
  exact (ixF_none fun j hj => ht j hj hj).symm
theorem c190_k1 (l : List Pin) (hl : l.length <= maxLen) {fid : FuncId} {m : Nat} {r : List D} {p : Pin -> Bool} (he : enters prog fid = true)
  (hp : ∀ x ∈ l, Ctr prog fid [.agg ((encPin x).map .dat), .one (.ptr (.ro m [r] 0 0))] [] (.one (.dat (.bool (p x)))) []) : Ctr prog 190 [.one (.dat (.sl 4 (l.map encPin))), .one (.fn fid [.ro m [r] 0 0])] [] (.one (.dat (.bool (l.any p)))) [] := by
 refine Ctr.bd mixed func190 rfl ?_
 refine evl ?_
 refine CallK_pure e236 (c236_k1 l hl he hp) rfl ?_
 refine evl ?_
 refine Fin.nt results190 [] ?_ ?_ ?_ <;> try trivial
 (refine rsl ?_; try exact .intro)
 exact ixF_any p l
theorem c195_k1 (l : List LRow) (hl : l.length <= maxLen) {fid : FuncId} {m : Nat} {r : List D} {p : LRow -> Bool} (he : enters prog fid = true)
  (hp : ∀ x ∈ l, Ctr prog fid [.agg ((encLRow x).map .dat), .one (.ptr (.ro m [r] 0 0))] [] (.one (.dat (.bool (p x)))) []) : Ctr prog 195 [.one (.dat (.sl 2 (l.map encLRow))), .one (.fn fid [.ro m [r] 0 0])] [] (.one (.dat (.int .i64 (ixF p l)))) [] := by
 refine Ctr.bd mixed func195 rfl ?_
 refine evl ?_
 refine LoopK_intro (fun n s => ∃ i : Nat, i <= l.length /\ n = l.length - i /\ (∀ j (hj : j < l.length), j < i -> p l[j] = false) /\ s = mkSt [(8, .one (.dat (.int .i64 i))), (7, .one (.dat (.int .i64 l.length))), (1, .one (.fn fid [.ro m [r] 0 0])), (0, .one (.dat (.sl 2 (l.map encLRow))))] []) l.length _
  (Ent.wk []) ⟨0, by omega, by omega, by simp, rfl⟩ ?_
 rintro n s ⟨i, hi, rfl, ht, rfl⟩ K hK
 refine evl ?_
 constructor <;> intro h
 ·have hlt : i < l.length := by simpa using h
  have hw := wrap_succ hlt hl
  refine ⟨⟨by omega, by omega⟩, hlt, ?_⟩
  have hpx := hp l[i] (List.getElem_mem hlt)
  simp only [getD_map hlt, encLRow, List.map_cons, List.map_nil, List.take_succ_cons, List.take_zero, List.getD_cons_zero] at hpx ⊢
  refine CallK_pure he hpx rfl ?_
  refine sv0 ?_
  constructor <;> intro h
  ·apply hK
   refine evl ?_
   refine Fin.nt results195 [] ?_ ?_ ?_ <;> try trivial
   (refine rsl ?_; try exact .intro)
   exact (ixF_some hlt h ht).symm
  ·apply hK
   refine ⟨l.length - (i + 1), _, by omega, Ent.wk [], i + 1, by omega, rfl, fun j hj hji => ?_, rfl⟩
   by_cases e : j = i
   ·subst e; exact h
   ·exact ht j hj (by omega)
 ·have hge : i = l.length := by simp at h; omega
  subst hge
  apply hK
  refine evl ?_
  refine Fin.nt results195 [] ?_ ?_ ?_ <;> try trivial
  (refine rsl ?_; try exact .intro)
  exact (ixF_none fun j hj => ht j hj hj).symm
theorem c136_k1 (l : List LRow) (hl : l.length <= maxLen) {fid : FuncId} {m : Nat} {r : List D} {p : LRow -> Bool} (he : enters prog fid = true)
  (hp : ∀ x ∈ l, Ctr prog fid [.agg ((encLRow x).map .dat), .one (.ptr (.ro m [r] 0 0))] [] (.one (.dat (.bool (p x)))) []) : Ctr prog 136 [.one (.dat (.sl 2 (l.map encLRow))), .one (.fn fid [.ro m [r] 0 0])] [] (.one (.dat (.bool (l.any p)))) [] := by
 refine Ctr.bd mixed func136 rfl ?_
 refine evl ?_
 refine CallK_pure e195 (c195_k1 l hl he hp) rfl ?_
 refine evl ?_
 refine Fin.nt results136 [] ?_ ?_ ?_ <;> try trivial
 (refine rsl ?_; try exact .intro)
 exact ixF_any p l
theorem c194_k1 (l : List LList) (hl : l.length <= maxLen) {fid : FuncId} {m : Nat} {r : List D} {p : LList -> Bool} (he : enters prog fid = true)
  (hp : ∀ x ∈ l, Ctr prog fid [.agg ((encLList x).map .dat), .one (.ptr (.ro m [r] 0 0))] [] (.one (.dat (.bool (p x)))) []) : Ctr prog 194 [.one (.dat (.sl 1 (l.map encLList))), .one (.fn fid [.ro m [r] 0 0])] [] (.one (.dat (.int .i64 (ixF p l)))) [] := by
 refine Ctr.bd mixed func194 rfl ?_
 refine evl ?_
 refine LoopK_intro (fun n s => ∃ i : Nat, i <= l.length /\ n = l.length - i /\ (∀ j (hj : j < l.length), j < i -> p l[j] = false) /\ s = mkSt [(8, .one (.dat (.int .i64 i))), (7, .one (.dat (.int .i64 l.length))), (1, .one (.fn fid [.ro m [r] 0 0])), (0, .one (.dat (.sl 1 (l.map encLList))))] []) l.length _
  (Ent.wk []) ⟨0, by omega, by omega, by simp, rfl⟩ ?_
 rintro n s ⟨i, hi, rfl, ht, rfl⟩ K hK
 refine evl ?_
 constructor <;> intro h
 ·have hlt : i < l.length := by simpa using h
  have hw := wrap_succ hlt hl
  refine ⟨⟨by omega, by omega⟩, hlt, ?_⟩
  have hpx := hp l[i] (List.getElem_mem hlt)
  simp only [getD_map hlt, encLList, List.map_cons, List.map_nil, List.take_succ_cons, List.take_zero, List.getD_cons_zero] at hpx ⊢
  refine CallK_pure he hpx rfl ?_
  refine sv0 ?_
  constructor <;> intro h
  ·apply hK
   refine evl ?_
   refine Fin.nt results194 [] ?_ ?_ ?_ <;> try trivial
   (refine rsl ?_; try exact .intro)
   exact (ixF_some hlt h ht).symm
  ·apply hK
   refine ⟨l.length - (i + 1), _, by omega, Ent.wk [], i + 1, by omega, rfl, fun j hj hji => ?_, rfl⟩
   by_cases e : j = i
   ·subst e; exact h
   ·exact ht j hj (by omega)
 ·have hge : i = l.length := by simp at h; omega
  subst hge
  apply hK
  refine evl ?_
  refine Fin.nt results194 [] ?_ ?_ ?_ <;> try trivial
  (refine rsl ?_; try exact .intro)
  exact (ixF_none fun j hj => ht j hj hj).symm
theorem c134_k1 (l : List LList) (hl : l.length <= maxLen) {fid : FuncId} {m : Nat} {r : List D} {p : LList -> Bool} (he : enters prog fid = true)
  (hp : ∀ x ∈ l, Ctr prog fid [.agg ((encLList x).map .dat), .one (.ptr (.ro m [r] 0 0))] [] (.one (.dat (.bool (p x)))) []) : Ctr prog 134 [.one (.dat (.sl 1 (l.map encLList))), .one (.fn fid [.ro m [r] 0 0])] [] (.one (.dat (.bool (l.any p)))) [] := by
 refine Ctr.bd mixed func134 rfl ?_
 refine evl ?_
 refine CallK_pure e194 (c194_k1 l hl he hp) rfl ?_
 refine evl ?_
 refine Fin.nt results134 [] ?_ ?_ ?_ <;> try trivial
 (refine rsl ?_; try exact .intro)
 exact ixF_any p l
theorem c198_k0 (l : List Op) (hl : l.length <= maxLen) {fid : FuncId} {p : Op -> Bool} (he : enters prog fid = true)
  (hp : ∀ x ∈ l, Ctr prog fid [.agg ((encOp x).map .dat)] [] (.one (.dat (.bool (p x)))) []) : Ctr prog 198 [.one (.dat (.sl 4 (l.map encOp))), .one (.fn fid [])] [] (.one (.dat (.int .i64 (ixF p l)))) [] := by
 refine Ctr.bd mixed func198 rfl ?_
 refine evl ?_
 refine LoopK_intro (fun n s => ∃ i : Nat, i <= l.length /\ n = l.length - i /\ (∀ j (hj : j < l.length), j < i -> p l[j] = false) /\ s = mkSt [(8, .one (.dat (.int .i64 i))), (7, .one (.dat (.int .i64 l.length))), (1, .one (.fn fid [])), (0, .one (.dat (.sl 4 (l.map encOp))))] []) l.length _
  (Ent.wk []) ⟨0, by omega, by omega, by simp, rfl⟩ ?_
 rintro n s ⟨i, hi, rfl, ht, rfl⟩ K hK
 refine evl ?_
 constructor <;> intro h
 ·have hlt : i < l.length := by simpa using h
  have hw := wrap_succ hlt hl
  refine ⟨⟨by omega, by omega⟩, hlt, ?_⟩
  have hpx := hp l[i] (List.getElem_mem hlt)
  simp only [getD_map hlt, encOp, List.map_cons, List.map_nil, List.take_succ_cons, List.take_zero, List.getD_cons_zero] at hpx ⊢
  refine CallK_pure he hpx rfl ?_
  refine sv0 ?_
  constructor <;> intro h
  ·apply hK
   refine evl ?_
   refine Fin.nt results198 [] ?_ ?_ ?_ <;> try trivial
   (refine rsl ?_; try exact .intro)
   exact (ixF_some hlt h ht).symm
  ·apply hK
   refine ⟨l.length - (i + 1), _, by omega, Ent.wk [], i + 1, by omega, rfl, fun j hj hji => ?_, rfl⟩
   by_cases e : j = i
   ·subst e; exact h
   ·exact ht j hj (by omega)
 ·have hge : i = l.length := by simp at h; omega
  subst hge
  apply hK
  refine evl ?_
  refine Fin.nt results198 [] ?_ ?_ ?_ <;> try trivial
  (refine rsl ?_; try exact .intro)
  exact (ixF_none fun j hj => ht j hj hj).symm
theorem c140_k0 (l : List Op) (hl : l.length <= maxLen) {fid : FuncId} {p : Op -> Bool} (he : enters prog fid = true)
  (hp : ∀ x ∈ l, Ctr prog fid [.agg ((encOp x).map .dat)] [] (.one (.dat (.bool (p x)))) []) : Ctr prog 140 [.one (.dat (.sl 4 (l.map encOp))), .one (.fn fid [])] [] (.one (.dat (.bool (l.any p)))) [] := by
 refine Ctr.bd mixed func140 rfl ?_
 refine evl ?_
 refine CallK_pure e198 (c198_k0 l hl he hp) rfl ?_
 refine evl ?_
 refine Fin.nt results140 [] ?_ ?_ ?_ <;> try trivial
 (refine rsl ?_; try exact .intro)
 exact ixF_any p l
theorem c166_k0 (l : List Queue) (hl : l.length <= maxLen) {fid : FuncId} {p : Queue -> Bool} (he : enters prog fid = true)
  (hp : ∀ x ∈ l, Ctr prog fid [.agg ((encQueue x).map .dat)] [] (.one (.dat (.bool (p x)))) []) : Ctr prog 166 [.one (.dat (.sl 1 (l.map encQueue))), .one (.fn fid [])] [] (.one (.dat (.int .i64 (ixF p l)))) [] := by
 refine Ctr.bd mixed func166 rfl ?_
 refine evl ?_
 refine LoopK_intro (fun n s => ∃ i : Nat, i <= l.length /\ n = l.length - i /\ (∀ j (hj : j < l.length), j < i -> p l[j] = false) /\ s = mkSt [(8, .one (.dat (.int .i64 i))), (7, .one (.dat (.int .i64 l.length))), (1, .one (.fn fid [])), (0, .one (.dat (.sl 1 (l.map encQueue))))] []) l.length _
  (Ent.wk []) ⟨0, by omega, by omega, by simp, rfl⟩ ?_
 rintro n s ⟨i, hi, rfl, ht, rfl⟩ K hK
 refine evl ?_
 constructor <;> intro h
 ·have hlt : i < l.length := by simpa using h
  have hw := wrap_succ hlt hl
  refine ⟨⟨by omega, by omega⟩, hlt, ?_⟩
  have hpx := hp l[i] (List.getElem_mem hlt)
  simp only [getD_map hlt, encQueue, List.map_cons, List.map_nil, List.take_succ_cons, List.take_zero, List.getD_cons_zero] at hpx ⊢
  refine CallK_pure he hpx rfl ?_
  refine sv0 ?_
  constructor <;> intro h
  ·apply hK
   refine evl ?_
   refine Fin.nt results166 [] ?_ ?_ ?_ <;> try trivial
   (refine rsl ?_; try exact .intro)
   exact (ixF_some hlt h ht).symm
  ·apply hK
   refine ⟨l.length - (i + 1), _, by omega, Ent.wk [], i + 1, by omega, rfl, fun j hj hji => ?_, rfl⟩
   by_cases e : j = i
   ·subst e; exact h
   ·exact ht j hj (by omega)
 ·have hge : i = l.length := by simp at h; omega
  subst hge
  apply hK
  refine evl ?_
  refine Fin.nt results166 [] ?_ ?_ ?_ <;> try trivial
  (refine rsl ?_; try exact .intro)
  exact (ixF_none fun j hj => ht j hj hj).symm
theorem c103_k0 (l : List Queue) (hl : l.length <= maxLen) {fid : FuncId} {p : Queue -> Bool} (he : enters prog fid = true)
  (hp : ∀ x ∈ l, Ctr prog fid [.agg ((encQueue x).map .dat)] [] (.one (.dat (.bool (p x)))) []) : Ctr prog 103 [.one (.dat (.sl 1 (l.map encQueue))), .one (.fn fid [])] [] (.one (.dat (.bool (l.any p)))) [] := by
 refine Ctr.bd mixed func103 rfl ?_
 refine evl ?_
 refine CallK_pure e166 (c166_k0 l hl he hp) rfl ?_
 refine evl ?_
 refine Fin.nt results103 [] ?_ ?_ ?_ <;> try trivial
 (refine rsl ?_; try exact .intro)
 exact ixF_any p l
theorem c145_k0 (l : List Job) (hl : l.length <= maxLen) {fid : FuncId} {p : Job -> Bool} (he : enters prog fid = true)
  (hp : ∀ x ∈ l, Ctr prog fid [.agg ((encJob x).map .dat)] [] (.one (.dat (.bool (p x)))) []) : Ctr prog 145 [.one (.dat (.sl 21 (l.map encJob))), .one (.fn fid [])] [] (.one (.dat (.int .i64 (ixF p l)))) [] := by
 refine Ctr.bd mixed func145 rfl ?_
 refine evl ?_
 refine LoopK_intro (fun n s => ∃ i : Nat, i <= l.length /\ n = l.length - i /\ (∀ j (hj : j < l.length), j < i -> p l[j] = false) /\ s = mkSt [(8, .one (.dat (.int .i64 i))), (7, .one (.dat (.int .i64 l.length))), (1, .one (.fn fid [])), (0, .one (.dat (.sl 21 (l.map encJob))))] []) l.length _
  (Ent.wk []) ⟨0, by omega, by omega, by simp, rfl⟩ ?_
 rintro n s ⟨i, hi, rfl, ht, rfl⟩ K hK
 refine evl ?_
 constructor <;> intro h
 ·have hlt : i < l.length := by simpa using h
  have hw := wrap_succ hlt hl
  refine ⟨⟨by omega, by omega⟩, hlt, ?_⟩
  have hpx := hp l[i] (List.getElem_mem hlt)
  simp only [getD_map hlt, encJob, List.map_cons, List.map_nil, List.take_succ_cons, List.take_zero, List.getD_cons_zero] at hpx ⊢
  refine CallK_pure he hpx rfl ?_
  refine sv0 ?_
  constructor <;> intro h
  ·apply hK
   refine evl ?_
   refine Fin.nt results145 [] ?_ ?_ ?_ <;> try trivial
   (refine rsl ?_; try exact .intro)
   exact (ixF_some hlt h ht).symm
  ·apply hK
   refine ⟨l.length - (i + 1), _, by omega, Ent.wk [], i + 1, by omega, rfl, fun j hj hji => ?_, rfl⟩
   by_cases e : j = i
   ·subst e; exact h
   ·exact ht j hj (by omega)
 ·have hge : i = l.length := by simp at h; omega
  subst hge
  apply hK
  refine evl ?_
  refine Fin.nt results145 [] ?_ ?_ ?_ <;> try trivial
  (refine rsl ?_; try exact .intro)
  exact (ixF_none fun j hj => ht j hj hj).symm
theorem c78_k0 (l : List Job) (hl : l.length <= maxLen) {fid : FuncId} {p : Job -> Bool} (he : enters prog fid = true)
  (hp : ∀ x ∈ l, Ctr prog fid [.agg ((encJob x).map .dat)] [] (.one (.dat (.bool (p x)))) []) : Ctr prog 78 [.one (.dat (.sl 21 (l.map encJob))), .one (.fn fid [])] [] (.one (.dat (.bool (l.any p)))) [] := by
 refine Ctr.bd mixed func78 rfl ?_
 refine evl ?_
 refine CallK_pure e145 (c145_k0 l hl he hp) rfl ?_
 refine evl ?_
 refine Fin.nt results78 [] ?_ ?_ ?_ <;> try trivial
 (refine rsl ?_; try exact .intro)
 exact ixF_any p l
end Go.Proofs.YtebinioiggfplaaGreat.Mod
