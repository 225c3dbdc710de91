/- Contracts: Sl2. -/
import Derived.Test.YtpniplpnggddpaaGreatRows
import Derived.Test.YtpniplpnggddpaaGreatATy
import Derived.Test.YtpniplpnggddpaaGreatAbsTac
import Derived.Test.YtpniplpnggddpaaGreatAbsData
import Derived.Test.YtpniplpnggddpaaGreatAFam2
import Derived.Test.YtpniplpnggddpaaGreatASl
import Derived.WalkKit
import Derived.ProofKit
import Derived.OpenShut
namespace Go.Proofs.YtpniplpnggddpaaGreat.Mod
open Go.Proofs.Tryz Go.Abs Go.Proofs.YtpniplpnggddpaaGreat.Ty Go.ChangeShapes Go.WideShapes Go.ChangeAt Go.RowKit
set_option linter.unusedSimpArgs false
set_option linter.unusedVariables false
set_option maxHeartbeats 8000000
set_option maxRecDepth 100000
theorem ixF_any {α : Type} (p : α -> Bool) (l : List α) : decide (0 <= ixF p l) = l.any p := by
 rcases ixF_cases p l with ⟨e, hno⟩ | ⟨i, hi, e, hp, _⟩
 ·rw [e]
  symm
  have : l.any p = false := by
   rw [List.any_eq_false]
   intro x hx
   obtain ⟨j, hj, rfl⟩ := List.getElem_of_mem hx
   simp [hno j hj]
  rw [this]; rfl
 ·rw [e]
  have : l.any p = true := List.any_eq_true.2 ⟨_, List.getElem_mem hi, hp⟩
  rw [this]; simp
theorem c57 (l : List Int) (hl : l.length <= maxLen) (v : Int) : Ctr prog 57 [.one (.dat (.sl 1 (l.map encI))), .one (.dat (.int .i64 v))] [] (.one (.dat (.int .i64 (ixF (fun x => x == v) l)))) [] := by
 refine Ctr.bd mixed func57 rfl ?_
 refine evl ?_
 refine LoopK_intro (fun zn zs => ∃ i : Nat, i <= l.length /\ zn = l.length - i /\ (∀ j (hj : j < l.length), j < i -> (l[j] == v) = false) /\ zs = mkSt [(8, .one (.dat (.int .i64 i))), (7, .one (.dat (.int .i64 (l.length)))), (0, .one (.dat (.sl 1 (l.map encI)))), (1, .one (.dat (.int .i64 v)))] []) (l.length) _
  (Ent.wk []) ⟨0, by omega, by omega, by simp, rfl⟩ ?_
 rintro zn zs ⟨i, hi, rfl, hinv, rfl⟩ K hK
 rcases Nat.lt_or_ge i (l.length) with hlt | hge
 ·have hdi : decide ((i : Int) < ((l.length : Nat) : Int)) = true := decide_eq_true (by omega)
  have hw := wrap_succ hlt hl
  refine sv6 ?_
  refine ⟨⟨by omega, by omega⟩, hlt, ?_⟩
  constructor <;> intro h
  ·apply hK
   refine evl ?_
   refine Fin.nt results57 [] ?_ ?_ ?_ <;> try trivial
   (refine rsl ?_; try exact .intro)
   exact (ixF_some (p := fun x => x == v) hlt (BEq.comm.trans h) hinv).symm
  ·(apply hK
    exact ⟨l.length - (i + 1), _, by omega, Ent.wk [], i + 1, by omega, rfl, fun j hj hji => if e : j = i then by subst e; exact BEq.comm.trans h else hinv j hj (by omega), rfl⟩)
 ·have hge' : l.length = i := by omega
  subst hge'
  have hdi : decide (((l.length : Nat) : Int) < ((l.length : Nat) : Int)) = false := by simp
  refine sv1 ?_
  apply hK
  refine evl ?_
  refine Fin.nt results57 [] ?_ ?_ ?_ <;> try trivial
  (refine rsl ?_; try exact .intro)
  exact (ixF_none fun j hj => hinv j hj hj).symm
theorem c55 (l : List Int) (hl : l.length <= maxLen) (v : Int) : Ctr prog 55 [.one (.dat (.sl 1 (l.map encI))), .one (.dat (.int .i64 v))] [] (.one (.dat (.bool (l.any fun x => x == v)))) [] := by
 refine Ctr.bd mixed func55 rfl ?_
 refine evl ?_
 refine CallK_pure e57 (c57 l hl v) rfl ?_
 refine evl ?_
 refine Fin.nt results55 [] ?_ ?_ ?_ <;> try trivial
 (refine rsl ?_; try exact .intro)
 exact ixF_any _ l
theorem c136_k0 (l : List Int) (hl : l.length <= maxLen) {fid : FuncId} {p : Int -> Bool} (he : enters prog fid = true)
  (hp : ∀ x ∈ l, Ctr prog fid [.one (.dat (.int .i64 x))] [] (.one (.dat (.bool (p x)))) []) : Ctr prog 136 [.one (.dat (.sl 1 (l.map encI))), .one (.fn fid [])] [] (.one (.dat (.int .i64 (ixF p l)))) [] := by
 refine Ctr.bd mixed func136 rfl ?_
 refine evl ?_
 refine LoopK_intro (fun n s => ∃ i : Nat, i <= l.length /\ n = l.length - i /\ (∀ j (hj : j < l.length), j < i -> p l[j] = false) /\ s = mkSt [(8, .one (.dat (.int .i64 i))), (7, .one (.dat (.int .i64 l.length))), (1, .one (.fn fid [])), (0, .one (.dat (.sl 1 (l.map encI))))] []) l.length _
  (Ent.wk []) ⟨0, by omega, by omega, by simp, rfl⟩ ?_
 rintro n s ⟨i, hi, rfl, ht, rfl⟩ K hK
 refine evl ?_
 constructor <;> intro h
 ·have hlt : i < l.length := by simpa using h
  have hw := wrap_succ hlt hl
  refine ⟨⟨by omega, by omega⟩, hlt, ?_⟩
  have hpx := hp l[i] (List.getElem_mem hlt)
  simp only [getD_map hlt, encI, List.map_cons, List.map_nil, List.take_succ_cons, List.take_zero, List.getD_cons_zero] at hpx ⊢
  refine CallK_pure he hpx rfl ?_
  refine sv0 ?_
  constructor <;> intro h
  ·apply hK
   refine evl ?_
   refine Fin.nt results136 [] ?_ ?_ ?_ <;> try trivial
   (refine rsl ?_; try exact .intro)
   exact (ixF_some hlt h ht).symm
  ·apply hK
   refine ⟨l.length - (i + 1), _, by omega, Ent.wk [], i + 1, by omega, rfl, fun j hj hji => ?_, rfl⟩
   by_cases e : j = i
   ·subst e; exact h
   ·exact ht j hj (by omega)
 ·have hge : i = l.length := by simp at h; omega
  subst hge
  apply hK
  refine evl ?_
  refine Fin.nt results136 [] ?_ ?_ ?_ <;> try trivial
  (refine rsl ?_; try exact .intro)
  exact (ixF_none fun j hj => ht j hj hj).symm
theorem c125_k0 (l : List Int) (hl : l.length <= maxLen) {fid : FuncId} {p : Int -> Bool} (he : enters prog fid = true)
  (hp : ∀ x ∈ l, Ctr prog fid [.one (.dat (.int .i64 x))] [] (.one (.dat (.bool (p x)))) []) : Ctr prog 125 [.one (.dat (.sl 1 (l.map encI))), .one (.fn fid [])] [] (.one (.dat (.bool (l.any p)))) [] := by
 refine Ctr.bd mixed func125 rfl ?_
 refine evl ?_
 refine CallK_pure e136 (c136_k0 l hl he hp) rfl ?_
 refine evl ?_
 refine Fin.nt results125 [] ?_ ?_ ?_ <;> try trivial
 (refine rsl ?_; try exact .intro)
 exact ixF_any p l
theorem c140_k1 (l : List SList) (hl : l.length <= maxLen) {fid : FuncId} {m : Nat} {r : List D} {p : SList -> Bool} (he : enters prog fid = true)
  (hp : ∀ x ∈ l, Ctr prog fid [.agg ((encSList x).map .dat), .one (.ptr (.ro m [r] 0 0))] [] (.one (.dat (.bool (p x)))) []) : Ctr prog 140 [.one (.dat (.sl 1 (l.map encSList))), .one (.fn fid [.ro m [r] 0 0])] [] (.one (.dat (.int .i64 (ixF p l)))) [] := by
 refine Ctr.bd mixed func140 rfl ?_
 refine evl ?_
 refine LoopK_intro (fun n s => ∃ i : Nat, i <= l.length /\ n = l.length - i /\ (∀ j (hj : j < l.length), j < i -> p l[j] = false) /\ s = mkSt [(8, .one (.dat (.int .i64 i))), (7, .one (.dat (.int .i64 l.length))), (1, .one (.fn fid [.ro m [r] 0 0])), (0, .one (.dat (.sl 1 (l.map encSList))))] []) l.length _
  (Ent.wk []) ⟨0, by omega, by omega, by simp, rfl⟩ ?_
 rintro n s ⟨i, hi, rfl, ht, rfl⟩ K hK
 refine evl ?_
 constructor <;> intro h
 ·have hlt : i < l.length := by simpa using h
  have hw := wrap_succ hlt hl
  refine ⟨⟨by omega, by omega⟩, hlt, ?_⟩
  have hpx := hp l[i] (List.getElem_mem hlt)
  simp only [getD_map hlt, encSList, List.map_cons, List.map_nil, List.take_succ_cons, List.take_zero, List.getD_cons_zero] at hpx ⊢
  refine CallK_pure he hpx rfl ?_
  refine sv0 ?_
  constructor <;> intro h
  ·apply hK
   refine evl ?_
   refine Fin.nt results140 [] ?_ ?_ ?_ <;> try trivial
   (refine rsl ?_; try exact .intro)
   exact (ixF_some hlt h ht).symm
  ·apply hK
   refine ⟨l.length - (i + 1), _, by omega, Ent.wk [], i + 1, by omega, rfl, fun j hj hji => ?_, rfl⟩
   by_cases e : j = i
   ·subst e; exact h
   ·exact ht j hj (by omega)
 ·have hge : i = l.length := by simp at h; omega
  subst hge
  apply hK
  refine evl ?_
  refine Fin.nt results140 [] ?_ ?_ ?_ <;> try trivial
  (refine rsl ?_; try exact .intro)
  exact (ixF_none fun j hj => ht j hj hj).symm
theorem c139_k1 (l : List SList) (hl : l.length <= maxLen) {fid : FuncId} {m : Nat} {r : List D} {p : SList -> Bool} (he : enters prog fid = true)
  (hp : ∀ x ∈ l, Ctr prog fid [.agg ((encSList x).map .dat), .one (.ptr (.ro m [r] 0 0))] [] (.one (.dat (.bool (p x)))) []) : Ctr prog 139 [.one (.dat (.sl 1 (l.map encSList))), .one (.fn fid [.ro m [r] 0 0])] [] (.one (.dat (.bool (l.any p)))) [] := by
 refine Ctr.bd mixed func139 rfl ?_
 refine evl ?_
 refine CallK_pure e140 (c140_k1 l hl he hp) rfl ?_
 refine evl ?_
 refine Fin.nt results139 [] ?_ ?_ ?_ <;> try trivial
 (refine rsl ?_; try exact .intro)
 exact ixF_any p l
end Go.Proofs.YtpniplpnggddpaaGreat.Mod
