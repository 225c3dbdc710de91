/- Contracts: Sl2. -/
import Derived.Test.YtcanhdhlbghfiaaGreatRows
import Derived.Test.YtcanhdhlbghfiaaGreatCTy
import Derived.Test.YtcanhdhlbghfiaaGreatAbsTac
import Derived.Test.YtcanhdhlbghfiaaGreatAbsData
import Derived.Test.YtcanhdhlbghfiaaGreatCFam2
import Derived.Test.YtcanhdhlbghfiaaGreatCSl
import Derived.WalkKit
import Derived.ProofKit
import Derived.OpenShut
namespace Go.Proofs.YtcanhdhlbghfiaaGreat.Mod
open Go.Proofs.Tryz Go.Abs Go.Proofs.YtcanhdhlbghfiaaGreat.Ty Go.ChangeShapes Go.WideShapes Go.ChangeAt Go.RowKit
set_option linter.unusedSimpArgs false
set_option linter.unusedVariables false
set_option maxHeartbeats 8000000
set_option maxRecDepth 100000
theorem ixF_any {α : Type} (p : α -> Bool) (l : List α) : decide (0 <= ixF p l) = l.any p := by
 rcases ixF_cases p l with ⟨e, hno⟩ | ⟨i, hi, e, hp, _⟩
 ·rw [e]
  symm
  have : l.any p = false := by
   rw [List.any_eq_false]
   intro x hx
   obtain ⟨j, hj, rfl⟩ := List.getElem_of_mem hx
   simp [hno j hj]
  rw [this]; rfl
 ·rw [e]
  have : l.any p = true := List.any_eq_true.2 ⟨_, List.getElem_mem hi, hp⟩
  rw [this]; simp
theorem c295 (l : List Int) (hl : l.length <= maxLen) (v : Int) : Ctr prog 295 [.one (.dat (.sl 1 (l.map encI))), .one (.dat (.int .i64 v))] [] (.one (.dat (.int .i64 (ixF (fun x => x == v) l)))) [] := by
 refine Ctr.bd mixed func295 rfl ?_
 refine evl ?_
 refine LoopK_intro (fun zn zs => ∃ i : Nat, i <= l.length /\ zn = l.length - i /\ (∀ j (hj : j < l.length), j < i -> (l[j] == v) = false) /\ zs = mkSt [(8, .one (.dat (.int .i64 i))), (7, .one (.dat (.int .i64 (l.length)))), (0, .one (.dat (.sl 1 (l.map encI)))), (1, .one (.dat (.int .i64 v)))] []) (l.length) _
  (Ent.wk []) ⟨0, by omega, by omega, by simp, rfl⟩ ?_
 rintro zn zs ⟨i, hi, rfl, hinv, rfl⟩ K hK
 rcases Nat.lt_or_ge i (l.length) with hlt | hge
 ·have hdi : decide ((i : Int) < ((l.length : Nat) : Int)) = true := decide_eq_true (by omega)
  have hw := wrap_succ hlt hl
  refine sv13 ?_
  refine ⟨⟨by omega, by omega⟩, hlt, ?_⟩
  constructor <;> intro h
  ·apply hK
   refine evl ?_
   refine Fin.nt results295 [] ?_ ?_ ?_ <;> try trivial
   (refine rsl ?_; try exact .intro)
   exact (ixF_some (p := fun x => x == v) hlt (BEq.comm.trans h) hinv).symm
  ·(apply hK
    exact ⟨l.length - (i + 1), _, by omega, Ent.wk [], i + 1, by omega, rfl, fun j hj hji => if e : j = i then by subst e; exact BEq.comm.trans h else hinv j hj (by omega), rfl⟩)
 ·have hge' : l.length = i := by omega
  subst hge'
  have hdi : decide (((l.length : Nat) : Int) < ((l.length : Nat) : Int)) = false := by simp
  refine sv3 ?_
  apply hK
  refine evl ?_
  refine Fin.nt results295 [] ?_ ?_ ?_ <;> try trivial
  (refine rsl ?_; try exact .intro)
  exact (ixF_none fun j hj => hinv j hj hj).symm
theorem c168 (l : List Int) (hl : l.length <= maxLen) (v : Int) : Ctr prog 168 [.one (.dat (.sl 1 (l.map encI))), .one (.dat (.int .i64 v))] [] (.one (.dat (.bool (l.any fun x => x == v)))) [] := by
 refine Ctr.bd mixed func168 rfl ?_
 refine evl ?_
 refine CallK_pure e295 (c295 l hl v) rfl ?_
 refine evl ?_
 refine Fin.nt results168 [] ?_ ?_ ?_ <;> try trivial
 (refine rsl ?_; try exact .intro)
 exact ixF_any _ l
theorem c187_k0 (l : List Int) (hl : l.length <= maxLen) {fid : FuncId} {p : Int -> Bool} (he : enters prog fid = true)
  (hp : ∀ x ∈ l, Ctr prog fid [.one (.dat (.int .i64 x))] [] (.one (.dat (.bool (p x)))) []) : Ctr prog 187 [.one (.dat (.sl 1 (l.map encI))), .one (.fn fid [])] [] (.one (.dat (.int .i64 (ixF p l)))) [] := by
 refine Ctr.bd mixed func187 rfl ?_
 refine evl ?_
 refine LoopK_intro (fun n s => ∃ i : Nat, i <= l.length /\ n = l.length - i /\ (∀ j (hj : j < l.length), j < i -> p l[j] = false) /\ s = mkSt [(8, .one (.dat (.int .i64 i))), (7, .one (.dat (.int .i64 l.length))), (1, .one (.fn fid [])), (0, .one (.dat (.sl 1 (l.map encI))))] []) l.length _
  (Ent.wk []) ⟨0, by omega, by omega, by simp, rfl⟩ ?_
 rintro n s ⟨i, hi, rfl, ht, rfl⟩ K hK
 refine evl ?_
 constructor <;> intro h
 ·have hlt : i < l.length := by simpa using h
  have hw := wrap_succ hlt hl
  refine ⟨⟨by omega, by omega⟩, hlt, ?_⟩
  have hpx := hp l[i] (List.getElem_mem hlt)
  simp only [getD_map hlt, encI, List.map_cons, List.map_nil, List.take_succ_cons, List.take_zero, List.getD_cons_zero] at hpx ⊢
  refine CallK_pure he hpx rfl ?_
  refine sv0 ?_
  constructor <;> intro h
  ·apply hK
   refine evl ?_
   refine Fin.nt results187 [] ?_ ?_ ?_ <;> try trivial
   (refine rsl ?_; try exact .intro)
   exact (ixF_some hlt h ht).symm
  ·apply hK
   refine ⟨l.length - (i + 1), _, by omega, Ent.wk [], i + 1, by omega, rfl, fun j hj hji => ?_, rfl⟩
   by_cases e : j = i
   ·subst e; exact h
   ·exact ht j hj (by omega)
 ·have hge : i = l.length := by simp at h; omega
  subst hge
  apply hK
  refine evl ?_
  refine Fin.nt results187 [] ?_ ?_ ?_ <;> try trivial
  (refine rsl ?_; try exact .intro)
  exact (ixF_none fun j hj => ht j hj hj).symm
theorem c78_k0 (l : List Int) (hl : l.length <= maxLen) {fid : FuncId} {p : Int -> Bool} (he : enters prog fid = true)
  (hp : ∀ x ∈ l, Ctr prog fid [.one (.dat (.int .i64 x))] [] (.one (.dat (.bool (p x)))) []) : Ctr prog 78 [.one (.dat (.sl 1 (l.map encI))), .one (.fn fid [])] [] (.one (.dat (.bool (l.any p)))) [] := by
 refine Ctr.bd mixed func78 rfl ?_
 refine evl ?_
 refine CallK_pure e187 (c187_k0 l hl he hp) rfl ?_
 refine evl ?_
 refine Fin.nt results78 [] ?_ ?_ ?_ <;> try trivial
 (refine rsl ?_; try exact .intro)
 exact ixF_any p l
theorem c187_k1 (l : List Int) (hl : l.length <= maxLen) {fid : FuncId} {m : Nat} {r : List D} {p : Int -> Bool} (he : enters prog fid = true)
  (hp : ∀ x ∈ l, Ctr prog fid [.one (.dat (.int .i64 x)), .one (.ptr (.ro m [r] 0 0))] [] (.one (.dat (.bool (p x)))) []) : Ctr prog 187 [.one (.dat (.sl 1 (l.map encI))), .one (.fn fid [.ro m [r] 0 0])] [] (.one (.dat (.int .i64 (ixF p l)))) [] := by
 refine Ctr.bd mixed func187 rfl ?_
 refine evl ?_
 refine LoopK_intro (fun n s => ∃ i : Nat, i <= l.length /\ n = l.length - i /\ (∀ j (hj : j < l.length), j < i -> p l[j] = false) /\ s = mkSt [(8, .one (.dat (.int .i64 i))), (7, .one (.dat (.int .i64 l.length))), (1, .one (.fn fid [.ro m [r] 0 0])), (0, .one (.dat (.sl 1 (l.map encI))))] []) l.length _
  (Ent.wk []) ⟨0, by omega, by omega, by simp, rfl⟩ ?_
 rintro n s ⟨i, hi, rfl, ht, rfl⟩ K hK
 refine evl ?_
 constructor <;> intro h
 ·have hlt : i < l.length := by simpa using h
  have hw := wrap_succ hlt hl
  refine ⟨⟨by omega, by omega⟩, hlt, ?_⟩
  have hpx := hp l[i] (List.getElem_mem hlt)
  simp only [getD_map hlt, encI, List.map_cons, List.map_nil, List.take_succ_cons, List.take_zero, List.getD_cons_zero] at hpx ⊢
  refine CallK_pure he hpx rfl ?_
  refine sv0 ?_
  constructor <;> intro h
  ·apply hK
   refine evl ?_
   refine Fin.nt results187 [] ?_ ?_ ?_ <;> try trivial
   (refine rsl ?_; try exact .intro)
   exact (ixF_some hlt h ht).symm
  ·apply hK
   refine ⟨l.length - (i + 1), _, by omega, Ent.wk [], i + 1, by omega, rfl, fun j hj hji => ?_, rfl⟩
   by_cases e : j = i
   ·subst e; exact h
   ·exact ht j hj (by omega)
 ·have hge : i = l.length := by simp at h; omega
  subst hge
  apply hK
  refine evl ?_
  refine Fin.nt results187 [] ?_ ?_ ?_ <;> try trivial
  (refine rsl ?_; try exact .intro)
  exact (ixF_none fun j hj => ht j hj hj).symm
theorem c78_k1 (l : List Int) (hl : l.length <= maxLen) {fid : FuncId} {m : Nat} {r : List D} {p : Int -> Bool} (he : enters prog fid = true)
  (hp : ∀ x ∈ l, Ctr prog fid [.one (.dat (.int .i64 x)), .one (.ptr (.ro m [r] 0 0))] [] (.one (.dat (.bool (p x)))) []) : Ctr prog 78 [.one (.dat (.sl 1 (l.map encI))), .one (.fn fid [.ro m [r] 0 0])] [] (.one (.dat (.bool (l.any p)))) [] := by
 refine Ctr.bd mixed func78 rfl ?_
 refine evl ?_
 refine CallK_pure e187 (c187_k1 l hl he hp) rfl ?_
 refine evl ?_
 refine Fin.nt results78 [] ?_ ?_ ?_ <;> try trivial
 (refine rsl ?_; try exact .intro)
 exact ixF_any p l
theorem c417_k1 (l : List SList) (hl : l.length <= maxLen) {fid : FuncId} {m : Nat} {r : List D} {p : SList -> Bool} (he : enters prog fid = true)
  (hp : ∀ x ∈ l, Ctr prog fid [.agg ((encSList x).map .dat), .one (.ptr (.ro m [r] 0 0))] [] (.one (.dat (.bool (p x)))) []) : Ctr prog 417 [.one (.dat (.sl 1 (l.map encSList))), .one (.fn fid [.ro m [r] 0 0])] [] (.one (.dat (.int .i64 (ixF p l)))) [] := by
 refine Ctr.bd mixed func417 rfl ?_
 refine evl ?_
 refine LoopK_intro (fun n s => ∃ i : Nat, i <= l.length /\ n = l.length - i /\ (∀ j (hj : j < l.length), j < i -> p l[j] = false) /\ s = mkSt [(8, .one (.dat (.int .i64 i))), (7, .one (.dat (.int .i64 l.length))), (1, .one (.fn fid [.ro m [r] 0 0])), (0, .one (.dat (.sl 1 (l.map encSList))))] []) l.length _
  (Ent.wk []) ⟨0, by omega, by omega, by simp, rfl⟩ ?_
 rintro n s ⟨i, hi, rfl, ht, rfl⟩ K hK
 refine evl ?_
 constructor <;> intro h
 ·have hlt : i < l.length := by simpa using h
  have hw := wrap_succ hlt hl
  refine ⟨⟨by omega, by omega⟩, hlt, ?_⟩
  have hpx := hp l[i] (List.getElem_mem hlt)
  simp only [getD_map hlt, encSList, List.map_cons, List.map_nil, List.take_succ_cons, List.take_zero, List.getD_cons_zero] at hpx ⊢
  refine CallK_pure he hpx rfl ?_
  refine sv0 ?_
  constructor <;> intro h
  ·apply hK
   refine evl ?_
   refine Fin.nt results417 [] ?_ ?_ ?_ <;> try trivial
   (refine rsl ?_; try exact .intro)
   exact (ixF_some hlt h ht).symm
  ·apply hK
   refine ⟨l.length - (i + 1), _, by omega, Ent.wk [], i + 1, by omega, rfl, fun j hj hji => ?_, rfl⟩
   by_cases e : j = i
   ·subst e; exact h
   ·exact ht j hj (by omega)
 ·have hge : i = l.length := by simp at h; omega
  subst hge
  apply hK
  refine evl ?_
  refine Fin.nt results417 [] ?_ ?_ ?_ <;> try trivial
  (refine rsl ?_; try exact .intro)
  exact (ixF_none fun j hj => ht j hj hj).symm
theorem c382_k1 (l : List SList) (hl : l.length <= maxLen) {fid : FuncId} {m : Nat} {r : List D} {p : SList -> Bool} (he : enters prog fid = true)
  (hp : ∀ x ∈ l, Ctr prog fid [.agg ((encSList x).map .dat), .one (.ptr (.ro m [r] 0 0))] [] (.one (.dat (.bool (p x)))) []) : Ctr prog 382 [.one (.dat (.sl 1 (l.map encSList))), .one (.fn fid [.ro m [r] 0 0])] [] (.one (.dat (.bool (l.any p)))) [] := by
 refine Ctr.bd mixed func382 rfl ?_
 refine evl ?_
 refine CallK_pure e417 (c417_k1 l hl he hp) rfl ?_
 refine evl ?_
 refine Fin.nt results382 [] ?_ ?_ ?_ <;> try trivial
 (refine rsl ?_; try exact .intro)
 exact ixF_any p l
theorem c369_k1 (l : List Pin) (hl : l.length <= maxLen) {fid : FuncId} {m : Nat} {r : List D} {p : Pin -> Bool} (he : enters prog fid = true)
  (hp : ∀ x ∈ l, Ctr prog fid [.agg ((encPin x).map .dat), .one (.ptr (.ro m [r] 0 0))] [] (.one (.dat (.bool (p x)))) []) : Ctr prog 369 [.one (.dat (.sl 4 (l.map encPin))), .one (.fn fid [.ro m [r] 0 0])] [] (.one (.dat (.int .i64 (ixF p l)))) [] := by
 refine Ctr.bd mixed func369 rfl ?_
 refine evl ?_
 refine LoopK_intro (fun n s => ∃ i : Nat, i <= l.length /\ n = l.length - i /\ (∀ j (hj : j < l.length), j < i -> p l[j] = false) /\ s = mkSt [(8, .one (.dat (.int .i64 i))), (7, .one (.dat (.int .i64 l.length))), (1, .one (.fn fid [.ro m [r] 0 0])), (0, .one (.dat (.sl 4 (l.map encPin))))] []) l.length _
  (Ent.wk []) ⟨0, by omega, by omega, by simp, rfl⟩ ?_
 rintro n s ⟨i, hi, rfl, ht, rfl⟩ K hK
 refine evl ?_
 constructor <;> intro h
 ·have hlt : i < l.length := by simpa using h
  have hw := wrap_succ hlt hl
  refine ⟨⟨by omega, by omega⟩, hlt, ?_⟩
  have hpx := hp l[i] (List.getElem_mem hlt)
  simp only [getD_map hlt, encPin, List.map_cons, List.map_nil, List.take_succ_cons, List.take_zero, List.getD_cons_zero] at hpx ⊢
  refine CallK_pure he hpx rfl ?_
  refine sv0 ?_
  constructor <;> intro h
  ·apply hK
   refine evl ?_
   refine Fin.nt results369 [] ?_ ?_ ?_ <;> try trivial
   (refine rsl ?_; try exact .intro)
   exact (ixF_some hlt h ht).symm
  ·apply hK
   refine ⟨l.length - (i + 1), _, by omega, Ent.wk [], i + 1, by omega, rfl, fun j hj hji => ?_, rfl⟩
   by_cases e : j = i
   ·subst e; exact h
   ·exact ht j hj (by omega)
 ·have hge : i = l.length := by simp at h; omega
  subst hge
  apply hK
  refine evl ?_
  refine Fin.nt results369 [] ?_ ?_ ?_ <;> try trivial
  (refine rsl ?_; try exact .intro)
  exact (ixF_none fun j hj => ht j hj hj).symm
theorem c284_k1 (l : List Pin) (hl : l.length <= maxLen) {fid : FuncId} {m : Nat} {r : List D} {p : Pin -> Bool} (he : enters prog fid = true)
  (hp : ∀ x ∈ l, Ctr prog fid [.agg ((encPin x).map .dat), .one (.ptr (.ro m [r] 0 0))] [] (.one (.dat (.bool (p x)))) []) : Ctr prog 284 [.one (.dat (.sl 4 (l.map encPin))), .one (.fn fid [.ro m [r] 0 0])] [] (.one (.dat (.bool (l.any p)))) [] := by
 refine Ctr.bd mixed func284 rfl ?_
 refine evl ?_
 refine CallK_pure e369 (c369_k1 l hl he hp) rfl ?_
 refine evl ?_
 refine Fin.nt results284 [] ?_ ?_ ?_ <;> try trivial
 (refine rsl ?_; try exact .intro)
 exact ixF_any p l
theorem c289_k1 (l : List LRow) (hl : l.length <= maxLen) {fid : FuncId} {m : Nat} {r : List D} {p : LRow -> Bool} (he : enters prog fid = true)
  (hp : ∀ x ∈ l, Ctr prog fid [.agg ((encLRow x).map .dat), .one (.ptr (.ro m [r] 0 0))] [] (.one (.dat (.bool (p x)))) []) : Ctr prog 289 [.one (.dat (.sl 2 (l.map encLRow))), .one (.fn fid [.ro m [r] 0 0])] [] (.one (.dat (.int .i64 (ixF p l)))) [] := by
 refine Ctr.bd mixed func289 rfl ?_
 refine evl ?_
 refine LoopK_intro (fun n s => ∃ i : Nat, i <= l.length /\ n = l.length - i /\ (∀ j (hj : j < l.length), j < i -> p l[j] = false) /\ s = mkSt [(8, .one (.dat (.int .i64 i))), (7, .one (.dat (.int .i64 l.length))), (1, .one (.fn fid [.ro m [r] 0 0])), (0, .one (.dat (.sl 2 (l.map encLRow))))] []) l.length _
  (Ent.wk []) ⟨0, by omega, by omega, by simp, rfl⟩ ?_
 rintro n s ⟨i, hi, rfl, ht, rfl⟩ K hK
 refine evl ?_
 constructor <;> intro h
 ·have hlt : i < l.length := by simpa using h
  have hw := wrap_succ hlt hl
  refine ⟨⟨by omega, by omega⟩, hlt, ?_⟩
  have hpx := hp l[i] (List.getElem_mem hlt)
  simp only [getD_map hlt, encLRow, List.map_cons, List.map_nil, List.take_succ_cons, List.take_zero, List.getD_cons_zero] at hpx ⊢
  refine CallK_pure he hpx rfl ?_
  refine sv0 ?_
  constructor <;> intro h
  ·apply hK
   refine evl ?_
   refine Fin.nt results289 [] ?_ ?_ ?_ <;> try trivial
   (refine rsl ?_; try exact .intro)
   exact (ixF_some hlt h ht).symm
  ·apply hK
   refine ⟨l.length - (i + 1), _, by omega, Ent.wk [], i + 1, by omega, rfl, fun j hj hji => ?_, rfl⟩
   by_cases e : j = i
   ·subst e; exact h
   ·exact ht j hj (by omega)
 ·have hge : i = l.length := by simp at h; omega
  subst hge
  apply hK
  refine evl ?_
  refine Fin.nt results289 [] ?_ ?_ ?_ <;> try trivial
  (refine rsl ?_; try exact .intro)
  exact (ixF_none fun j hj => ht j hj hj).symm
theorem c161_k1 (l : List LRow) (hl : l.length <= maxLen) {fid : FuncId} {m : Nat} {r : List D} {p : LRow -> Bool} (he : enters prog fid = true)
  (hp : ∀ x ∈ l, Ctr prog fid [.agg ((encLRow x).map .dat), .one (.ptr (.ro m [r] 0 0))] [] (.one (.dat (.bool (p x)))) []) : Ctr prog 161 [.one (.dat (.sl 2 (l.map encLRow))), .one (.fn fid [.ro m [r] 0 0])] [] (.one (.dat (.bool (l.any p)))) [] := by
 refine Ctr.bd mixed func161 rfl ?_
 refine evl ?_
 refine CallK_pure e289 (c289_k1 l hl he hp) rfl ?_
 refine evl ?_
 refine Fin.nt results161 [] ?_ ?_ ?_ <;> try trivial
 (refine rsl ?_; try exact .intro)
 exact ixF_any p l
theorem c288_k1 (l : List LList) (hl : l.length <= maxLen) {fid : FuncId} {m : Nat} {r : List D} {p : LList -> Bool} (he : enters prog fid = true)
  (hp : ∀ x ∈ l, Ctr prog fid [.agg ((encLList x).map .dat), .one (.ptr (.ro m [r] 0 0))] [] (.one (.dat (.bool (p x)))) []) : Ctr prog 288 [.one (.dat (.sl 1 (l.map encLList))), .one (.fn fid [.ro m [r] 0 0])] [] (.one (.dat (.int .i64 (ixF p l)))) [] := by
 refine Ctr.bd mixed func288 rfl ?_
 refine evl ?_
 refine LoopK_intro (fun n s => ∃ i : Nat, i <= l.length /\ n = l.length - i /\ (∀ j (hj : j < l.length), j < i -> p l[j] = false) /\ s = mkSt [(8, .one (.dat (.int .i64 i))), (7, .one (.dat (.int .i64 l.length))), (1, .one (.fn fid [.ro m [r] 0 0])), (0, .one (.dat (.sl 1 (l.map encLList))))] []) l.length _
  (Ent.wk []) ⟨0, by omega, by omega, by simp, rfl⟩ ?_
 rintro n s ⟨i, hi, rfl, ht, rfl⟩ K hK
 refine evl ?_
 constructor <;> intro h
 ·have hlt : i < l.length := by simpa using h
  have hw := wrap_succ hlt hl
  refine ⟨⟨by omega, by omega⟩, hlt, ?_⟩
  have hpx := hp l[i] (List.getElem_mem hlt)
  simp only [getD_map hlt, encLList, List.map_cons, List.map_nil, List.take_succ_cons, List.take_zero, List.getD_cons_zero] at hpx ⊢
  refine CallK_pure he hpx rfl ?_
  refine sv0 ?_
  constructor <;> intro h
  ·apply hK
   refine evl ?_
   refine Fin.nt results288 [] ?_ ?_ ?_ <;> try trivial
   (refine rsl ?_; try exact .intro)
   exact (ixF_some hlt h ht).symm
  ·apply hK
   refine ⟨l.length - (i + 1), _, by omega, Ent.wk [], i + 1, by omega, rfl, fun j hj hji => ?_, rfl⟩
   by_cases e : j = i
   ·subst e; exact h
   ·exact ht j hj (by omega)
 ·have hge : i = l.length := by simp at h; omega
  subst hge
  apply hK
  refine evl ?_
  refine Fin.nt results288 [] ?_ ?_ ?_ <;> try trivial
  (refine rsl ?_; try exact .intro)
  exact (ixF_none fun j hj => ht j hj hj).symm
theorem c159_k1 (l : List LList) (hl : l.length <= maxLen) {fid : FuncId} {m : Nat} {r : List D} {p : LList -> Bool} (he : enters prog fid = true)
  (hp : ∀ x ∈ l, Ctr prog fid [.agg ((encLList x).map .dat), .one (.ptr (.ro m [r] 0 0))] [] (.one (.dat (.bool (p x)))) []) : Ctr prog 159 [.one (.dat (.sl 1 (l.map encLList))), .one (.fn fid [.ro m [r] 0 0])] [] (.one (.dat (.bool (l.any p)))) [] := by
 refine Ctr.bd mixed func159 rfl ?_
 refine evl ?_
 refine CallK_pure e288 (c288_k1 l hl he hp) rfl ?_
 refine evl ?_
 refine Fin.nt results159 [] ?_ ?_ ?_ <;> try trivial
 (refine rsl ?_; try exact .intro)
 exact ixF_any p l
theorem c163_k0 (l : List Bkt) (hl : l.length <= maxLen) {fid : FuncId} {p : Bkt -> Bool} (he : enters prog fid = true)
  (hp : ∀ x ∈ l, Ctr prog fid [.agg ((encBkt x).map .dat)] [] (.one (.dat (.bool (p x)))) []) : Ctr prog 163 [.one (.dat (.sl 3 (l.map encBkt))), .one (.fn fid [])] [] (.one (.dat (.int .i64 (ixF p l)))) [] := by
 refine Ctr.bd mixed func163 rfl ?_
 refine evl ?_
 refine LoopK_intro (fun n s => ∃ i : Nat, i <= l.length /\ n = l.length - i /\ (∀ j (hj : j < l.length), j < i -> p l[j] = false) /\ s = mkSt [(8, .one (.dat (.int .i64 i))), (7, .one (.dat (.int .i64 l.length))), (1, .one (.fn fid [])), (0, .one (.dat (.sl 3 (l.map encBkt))))] []) l.length _
  (Ent.wk []) ⟨0, by omega, by omega, by simp, rfl⟩ ?_
 rintro n s ⟨i, hi, rfl, ht, rfl⟩ K hK
 refine evl ?_
 constructor <;> intro h
 ·have hlt : i < l.length := by simpa using h
  have hw := wrap_succ hlt hl
  refine ⟨⟨by omega, by omega⟩, hlt, ?_⟩
  have hpx := hp l[i] (List.getElem_mem hlt)
  simp only [getD_map hlt, encBkt, List.map_cons, List.map_nil, List.take_succ_cons, List.take_zero, List.getD_cons_zero] at hpx ⊢
  refine CallK_pure he hpx rfl ?_
  refine sv0 ?_
  constructor <;> intro h
  ·apply hK
   refine evl ?_
   refine Fin.nt results163 [] ?_ ?_ ?_ <;> try trivial
   (refine rsl ?_; try exact .intro)
   exact (ixF_some hlt h ht).symm
  ·apply hK
   refine ⟨l.length - (i + 1), _, by omega, Ent.wk [], i + 1, by omega, rfl, fun j hj hji => ?_, rfl⟩
   by_cases e : j = i
   ·subst e; exact h
   ·exact ht j hj (by omega)
 ·have hge : i = l.length := by simp at h; omega
  subst hge
  apply hK
  refine evl ?_
  refine Fin.nt results163 [] ?_ ?_ ?_ <;> try trivial
  (refine rsl ?_; try exact .intro)
  exact (ixF_none fun j hj => ht j hj hj).symm
theorem c66_k0 (l : List Bkt) (hl : l.length <= maxLen) {fid : FuncId} {p : Bkt -> Bool} (he : enters prog fid = true)
  (hp : ∀ x ∈ l, Ctr prog fid [.agg ((encBkt x).map .dat)] [] (.one (.dat (.bool (p x)))) []) : Ctr prog 66 [.one (.dat (.sl 3 (l.map encBkt))), .one (.fn fid [])] [] (.one (.dat (.bool (l.any p)))) [] := by
 refine Ctr.bd mixed func66 rfl ?_
 refine evl ?_
 refine CallK_pure e163 (c163_k0 l hl he hp) rfl ?_
 refine evl ?_
 refine Fin.nt results66 [] ?_ ?_ ?_ <;> try trivial
 (refine rsl ?_; try exact .intro)
 exact ixF_any p l
theorem c371_k0 (l : List Cmd) (hl : l.length <= maxLen) {fid : FuncId} {p : Cmd -> Bool} (he : enters prog fid = true)
  (hp : ∀ x ∈ l, Ctr prog fid [.agg ((encCmd x).map .dat)] [] (.one (.dat (.bool (p x)))) []) : Ctr prog 371 [.one (.dat (.sl 3 (l.map encCmd))), .one (.fn fid [])] [] (.one (.dat (.int .i64 (ixF p l)))) [] := by
 refine Ctr.bd mixed func371 rfl ?_
 refine evl ?_
 refine LoopK_intro (fun n s => ∃ i : Nat, i <= l.length /\ n = l.length - i /\ (∀ j (hj : j < l.length), j < i -> p l[j] = false) /\ s = mkSt [(8, .one (.dat (.int .i64 i))), (7, .one (.dat (.int .i64 l.length))), (1, .one (.fn fid [])), (0, .one (.dat (.sl 3 (l.map encCmd))))] []) l.length _
  (Ent.wk []) ⟨0, by omega, by omega, by simp, rfl⟩ ?_
 rintro n s ⟨i, hi, rfl, ht, rfl⟩ K hK
 refine evl ?_
 constructor <;> intro h
 ·have hlt : i < l.length := by simpa using h
  have hw := wrap_succ hlt hl
  refine ⟨⟨by omega, by omega⟩, hlt, ?_⟩
  have hpx := hp l[i] (List.getElem_mem hlt)
  simp only [getD_map hlt, encCmd, List.map_cons, List.map_nil, List.take_succ_cons, List.take_zero, List.getD_cons_zero] at hpx ⊢
  refine CallK_pure he hpx rfl ?_
  refine sv0 ?_
  constructor <;> intro h
  ·apply hK
   refine evl ?_
   refine Fin.nt results371 [] ?_ ?_ ?_ <;> try trivial
   (refine rsl ?_; try exact .intro)
   exact (ixF_some hlt h ht).symm
  ·apply hK
   refine ⟨l.length - (i + 1), _, by omega, Ent.wk [], i + 1, by omega, rfl, fun j hj hji => ?_, rfl⟩
   by_cases e : j = i
   ·subst e; exact h
   ·exact ht j hj (by omega)
 ·have hge : i = l.length := by simp at h; omega
  subst hge
  apply hK
  refine evl ?_
  refine Fin.nt results371 [] ?_ ?_ ?_ <;> try trivial
  (refine rsl ?_; try exact .intro)
  exact (ixF_none fun j hj => ht j hj hj).symm
theorem c296_k0 (l : List Cmd) (hl : l.length <= maxLen) {fid : FuncId} {p : Cmd -> Bool} (he : enters prog fid = true)
  (hp : ∀ x ∈ l, Ctr prog fid [.agg ((encCmd x).map .dat)] [] (.one (.dat (.bool (p x)))) []) : Ctr prog 296 [.one (.dat (.sl 3 (l.map encCmd))), .one (.fn fid [])] [] (.one (.dat (.bool (l.any p)))) [] := by
 refine Ctr.bd mixed func296 rfl ?_
 refine evl ?_
 refine CallK_pure e371 (c371_k0 l hl he hp) rfl ?_
 refine evl ?_
 refine Fin.nt results296 [] ?_ ?_ ?_ <;> try trivial
 (refine rsl ?_; try exact .intro)
 exact ixF_any p l
theorem c300_k0 (l : List Seen) (hl : l.length <= maxLen) {fid : FuncId} {p : Seen -> Bool} (he : enters prog fid = true)
  (hp : ∀ x ∈ l, Ctr prog fid [.agg ((encSeen x).map .dat)] [] (.one (.dat (.bool (p x)))) []) : Ctr prog 300 [.one (.dat (.sl 2 (l.map encSeen))), .one (.fn fid [])] [] (.one (.dat (.int .i64 (ixF p l)))) [] := by
 refine Ctr.bd mixed func300 rfl ?_
 refine evl ?_
 refine LoopK_intro (fun n s => ∃ i : Nat, i <= l.length /\ n = l.length - i /\ (∀ j (hj : j < l.length), j < i -> p l[j] = false) /\ s = mkSt [(8, .one (.dat (.int .i64 i))), (7, .one (.dat (.int .i64 l.length))), (1, .one (.fn fid [])), (0, .one (.dat (.sl 2 (l.map encSeen))))] []) l.length _
  (Ent.wk []) ⟨0, by omega, by omega, by simp, rfl⟩ ?_
 rintro n s ⟨i, hi, rfl, ht, rfl⟩ K hK
 refine evl ?_
 constructor <;> intro h
 ·have hlt : i < l.length := by simpa using h
  have hw := wrap_succ hlt hl
  refine ⟨⟨by omega, by omega⟩, hlt, ?_⟩
  have hpx := hp l[i] (List.getElem_mem hlt)
  simp only [getD_map hlt, encSeen, List.map_cons, List.map_nil, List.take_succ_cons, List.take_zero, List.getD_cons_zero] at hpx ⊢
  refine CallK_pure he hpx rfl ?_
  refine sv0 ?_
  constructor <;> intro h
  ·apply hK
   refine evl ?_
   refine Fin.nt results300 [] ?_ ?_ ?_ <;> try trivial
   (refine rsl ?_; try exact .intro)
   exact (ixF_some hlt h ht).symm
  ·apply hK
   refine ⟨l.length - (i + 1), _, by omega, Ent.wk [], i + 1, by omega, rfl, fun j hj hji => ?_, rfl⟩
   by_cases e : j = i
   ·subst e; exact h
   ·exact ht j hj (by omega)
 ·have hge : i = l.length := by simp at h; omega
  subst hge
  apply hK
  refine evl ?_
  refine Fin.nt results300 [] ?_ ?_ ?_ <;> try trivial
  (refine rsl ?_; try exact .intro)
  exact (ixF_none fun j hj => ht j hj hj).symm
theorem c171_k0 (l : List Seen) (hl : l.length <= maxLen) {fid : FuncId} {p : Seen -> Bool} (he : enters prog fid = true)
  (hp : ∀ x ∈ l, Ctr prog fid [.agg ((encSeen x).map .dat)] [] (.one (.dat (.bool (p x)))) []) : Ctr prog 171 [.one (.dat (.sl 2 (l.map encSeen))), .one (.fn fid [])] [] (.one (.dat (.bool (l.any p)))) [] := by
 refine Ctr.bd mixed func171 rfl ?_
 refine evl ?_
 refine CallK_pure e300 (c300_k0 l hl he hp) rfl ?_
 refine evl ?_
 refine Fin.nt results171 [] ?_ ?_ ?_ <;> try trivial
 (refine rsl ?_; try exact .intro)
 exact ixF_any p l
theorem c302_k0 (l : List Batch) (hl : l.length <= maxLen) {fid : FuncId} {p : Batch -> Bool} (he : enters prog fid = true)
  (hp : ∀ x ∈ l, Ctr prog fid [.agg ((encBatch x).map .dat)] [] (.one (.dat (.bool (p x)))) []) : Ctr prog 302 [.one (.dat (.sl 2 (l.map encBatch))), .one (.fn fid [])] [] (.one (.dat (.int .i64 (ixF p l)))) [] := by
 refine Ctr.bd mixed func302 rfl ?_
 refine evl ?_
 refine LoopK_intro (fun n s => ∃ i : Nat, i <= l.length /\ n = l.length - i /\ (∀ j (hj : j < l.length), j < i -> p l[j] = false) /\ s = mkSt [(8, .one (.dat (.int .i64 i))), (7, .one (.dat (.int .i64 l.length))), (1, .one (.fn fid [])), (0, .one (.dat (.sl 2 (l.map encBatch))))] []) l.length _
  (Ent.wk []) ⟨0, by omega, by omega, by simp, rfl⟩ ?_
 rintro n s ⟨i, hi, rfl, ht, rfl⟩ K hK
 refine evl ?_
 constructor <;> intro h
 ·have hlt : i < l.length := by simpa using h
  have hw := wrap_succ hlt hl
  refine ⟨⟨by omega, by omega⟩, hlt, ?_⟩
  have hpx := hp l[i] (List.getElem_mem hlt)
  simp only [getD_map hlt, encBatch, List.map_cons, List.map_nil, List.take_succ_cons, List.take_zero, List.getD_cons_zero] at hpx ⊢
  refine CallK_pure he hpx rfl ?_
  refine sv0 ?_
  constructor <;> intro h
  ·apply hK
   refine evl ?_
   refine Fin.nt results302 [] ?_ ?_ ?_ <;> try trivial
   (refine rsl ?_; try exact .intro)
   exact (ixF_some hlt h ht).symm
  ·apply hK
   refine ⟨l.length - (i + 1), _, by omega, Ent.wk [], i + 1, by omega, rfl, fun j hj hji => ?_, rfl⟩
   by_cases e : j = i
   ·subst e; exact h
   ·exact ht j hj (by omega)
 ·have hge : i = l.length := by simp at h; omega
  subst hge
  apply hK
  refine evl ?_
  refine Fin.nt results302 [] ?_ ?_ ?_ <;> try trivial
  (refine rsl ?_; try exact .intro)
  exact (ixF_none fun j hj => ht j hj hj).symm
theorem c176_k0 (l : List Batch) (hl : l.length <= maxLen) {fid : FuncId} {p : Batch -> Bool} (he : enters prog fid = true)
  (hp : ∀ x ∈ l, Ctr prog fid [.agg ((encBatch x).map .dat)] [] (.one (.dat (.bool (p x)))) []) : Ctr prog 176 [.one (.dat (.sl 2 (l.map encBatch))), .one (.fn fid [])] [] (.one (.dat (.bool (l.any p)))) [] := by
 refine Ctr.bd mixed func176 rfl ?_
 refine evl ?_
 refine CallK_pure e302 (c302_k0 l hl he hp) rfl ?_
 refine evl ?_
 refine Fin.nt results176 [] ?_ ?_ ?_ <;> try trivial
 (refine rsl ?_; try exact .intro)
 exact ixF_any p l
theorem c301_k0 (l : List TQueue) (hl : l.length <= maxLen) {fid : FuncId} {p : TQueue -> Bool} (he : enters prog fid = true)
  (hp : ∀ x ∈ l, Ctr prog fid [.agg ((encTQueue x).map .dat)] [] (.one (.dat (.bool (p x)))) []) : Ctr prog 301 [.one (.dat (.sl 1 (l.map encTQueue))), .one (.fn fid [])] [] (.one (.dat (.int .i64 (ixF p l)))) [] := by
 refine Ctr.bd mixed func301 rfl ?_
 refine evl ?_
 refine LoopK_intro (fun n s => ∃ i : Nat, i <= l.length /\ n = l.length - i /\ (∀ j (hj : j < l.length), j < i -> p l[j] = false) /\ s = mkSt [(8, .one (.dat (.int .i64 i))), (7, .one (.dat (.int .i64 l.length))), (1, .one (.fn fid [])), (0, .one (.dat (.sl 1 (l.map encTQueue))))] []) l.length _
  (Ent.wk []) ⟨0, by omega, by omega, by simp, rfl⟩ ?_
 rintro n s ⟨i, hi, rfl, ht, rfl⟩ K hK
 refine evl ?_
 constructor <;> intro h
 ·have hlt : i < l.length := by simpa using h
  have hw := wrap_succ hlt hl
  refine ⟨⟨by omega, by omega⟩, hlt, ?_⟩
  have hpx := hp l[i] (List.getElem_mem hlt)
  simp only [getD_map hlt, encTQueue, List.map_cons, List.map_nil, List.take_succ_cons, List.take_zero, List.getD_cons_zero] at hpx ⊢
  refine CallK_pure he hpx rfl ?_
  refine sv0 ?_
  constructor <;> intro h
  ·apply hK
   refine evl ?_
   refine Fin.nt results301 [] ?_ ?_ ?_ <;> try trivial
   (refine rsl ?_; try exact .intro)
   exact (ixF_some hlt h ht).symm
  ·apply hK
   refine ⟨l.length - (i + 1), _, by omega, Ent.wk [], i + 1, by omega, rfl, fun j hj hji => ?_, rfl⟩
   by_cases e : j = i
   ·subst e; exact h
   ·exact ht j hj (by omega)
 ·have hge : i = l.length := by simp at h; omega
  subst hge
  apply hK
  refine evl ?_
  refine Fin.nt results301 [] ?_ ?_ ?_ <;> try trivial
  (refine rsl ?_; try exact .intro)
  exact (ixF_none fun j hj => ht j hj hj).symm
theorem c174_k0 (l : List TQueue) (hl : l.length <= maxLen) {fid : FuncId} {p : TQueue -> Bool} (he : enters prog fid = true)
  (hp : ∀ x ∈ l, Ctr prog fid [.agg ((encTQueue x).map .dat)] [] (.one (.dat (.bool (p x)))) []) : Ctr prog 174 [.one (.dat (.sl 1 (l.map encTQueue))), .one (.fn fid [])] [] (.one (.dat (.bool (l.any p)))) [] := by
 refine Ctr.bd mixed func174 rfl ?_
 refine evl ?_
 refine CallK_pure e301 (c301_k0 l hl he hp) rfl ?_
 refine evl ?_
 refine Fin.nt results174 [] ?_ ?_ ?_ <;> try trivial
 (refine rsl ?_; try exact .intro)
 exact ixF_any p l
theorem c165_k0 (l : List TJob) (hl : l.length <= maxLen) {fid : FuncId} {p : TJob -> Bool} (he : enters prog fid = true)
  (hp : ∀ x ∈ l, Ctr prog fid [.agg ((encTJob x).map .dat)] [] (.one (.dat (.bool (p x)))) []) : Ctr prog 165 [.one (.dat (.sl 32 (l.map encTJob))), .one (.fn fid [])] [] (.one (.dat (.int .i64 (ixF p l)))) [] := by
 refine Ctr.bd mixed func165 rfl ?_
 refine evl ?_
 refine LoopK_intro (fun n s => ∃ i : Nat, i <= l.length /\ n = l.length - i /\ (∀ j (hj : j < l.length), j < i -> p l[j] = false) /\ s = mkSt [(8, .one (.dat (.int .i64 i))), (7, .one (.dat (.int .i64 l.length))), (1, .one (.fn fid [])), (0, .one (.dat (.sl 32 (l.map encTJob))))] []) l.length _
  (Ent.wk []) ⟨0, by omega, by omega, by simp, rfl⟩ ?_
 rintro n s ⟨i, hi, rfl, ht, rfl⟩ K hK
 refine evl ?_
 constructor <;> intro h
 ·have hlt : i < l.length := by simpa using h
  have hw := wrap_succ hlt hl
  refine ⟨⟨by omega, by omega⟩, hlt, ?_⟩
  have hpx := hp l[i] (List.getElem_mem hlt)
  simp only [getD_map hlt, encTJob, List.map_cons, List.map_nil, List.take_succ_cons, List.take_zero, List.getD_cons_zero] at hpx ⊢
  refine CallK_pure he hpx rfl ?_
  refine sv0 ?_
  constructor <;> intro h
  ·apply hK
   refine evl ?_
   refine Fin.nt results165 [] ?_ ?_ ?_ <;> try trivial
   (refine rsl ?_; try exact .intro)
   exact (ixF_some hlt h ht).symm
  ·apply hK
   refine ⟨l.length - (i + 1), _, by omega, Ent.wk [], i + 1, by omega, rfl, fun j hj hji => ?_, rfl⟩
   by_cases e : j = i
   ·subst e; exact h
   ·exact ht j hj (by omega)
 ·have hge : i = l.length := by simp at h; omega
  subst hge
  apply hK
  refine evl ?_
  refine Fin.nt results165 [] ?_ ?_ ?_ <;> try trivial
  (refine rsl ?_; try exact .intro)
  exact (ixF_none fun j hj => ht j hj hj).symm
theorem c69_k0 (l : List TJob) (hl : l.length <= maxLen) {fid : FuncId} {p : TJob -> Bool} (he : enters prog fid = true)
  (hp : ∀ x ∈ l, Ctr prog fid [.agg ((encTJob x).map .dat)] [] (.one (.dat (.bool (p x)))) []) : Ctr prog 69 [.one (.dat (.sl 32 (l.map encTJob))), .one (.fn fid [])] [] (.one (.dat (.bool (l.any p)))) [] := by
 refine Ctr.bd mixed func69 rfl ?_
 refine evl ?_
 refine CallK_pure e165 (c165_k0 l hl he hp) rfl ?_
 refine evl ?_
 refine Fin.nt results69 [] ?_ ?_ ?_ <;> try trivial
 (refine rsl ?_; try exact .intro)
 exact ixF_any p l
end Go.Proofs.YtcanhdhlbghfiaaGreat.Mod
