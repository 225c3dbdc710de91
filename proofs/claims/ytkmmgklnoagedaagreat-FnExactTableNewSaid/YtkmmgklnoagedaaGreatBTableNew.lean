/- FnExactTableNew: the program answers as the statement says, at every argument. -/
import Derived.Test.YtkmmgklnoagedaaGreatRows
import Derived.Test.YtkmmgklnoagedaaGreatBTy
import Derived.Test.YtkmmgklnoagedaaGreatAbsTac
import Derived.Test.YtkmmgklnoagedaaGreatAbsData
import Derived.Test.YtkmmgklnoagedaaGreatWhole
import Derived.Test.YtkmmgklnoagedaaGreatBBase
import Derived.Test.YtkmmgklnoagedaaGreatBNum
import Derived.Test.YtkmmgklnoagedaaGreatBFam
import Derived.Test.YtkmmgklnoagedaaGreatBFam2
import Derived.Test.YtkmmgklnoagedaaGreatBFam3
import Derived.Test.YtkmmgklnoagedaaGreatBMarks
import Derived.Test.YtkmmgklnoagedaaGreatBExact
import Derived.Test.YtkmmgklnoagedaaGreatBSl2
import Derived.Test.YtkmmgklnoagedaaGreatBHist
import Derived.Test.YtkmmgklnoagedaaGreatBValid
import Derived.WalkKit
import Derived.ProofKit
import Derived.OpenShut
namespace Go.Proofs.YtkmmgklnoagedaaGreat.Mod
open Go.Proofs.Tryz Go.Abs Go.Proofs.YtkmmgklnoagedaaGreat.Ty Go.ChangeShapes Go.WideShapes Go.ChangeAt Go.RowKit
set_option linter.unusedSimpArgs false
set_option linter.unusedVariables false
set_option maxHeartbeats 8000000
set_option maxRecDepth 100000
theorem Ent_empBox {nf : Nat} {st : St} {o j sz : Nat} {cells : List Leaf} (eo : st.obj o = .box cells) (hj : cells[j]? = some .emp) : Ent nf st ((st.addObj (.vec sz true [])).setObj o (.box (cells.set j (.own st.next)))) := fun B N β φ a w hB h => by
 have hon : o < st.next := lt_next h (by rw [eo]; simp)
 have ho := h.objs o
 unfold ObjRel at ho
 rw [show (st.ctx w β φ).ob o = _ from eo] at ho
 obtain ⟨b, T, vs, e1, e2, e3, e4⟩ := ho
 obtain ⟨v, hv, ad, rfl⟩ := e4.2 j _ hj
 obtain ⟨β1, φ1, le1, sr1, hp⟩ := h.newVec0 (ks := []) (by simp) sz true ad
 have sr1 : SR B N (st.addObj (.vec sz true [])) β1 φ1 a w := sr1
 have le1 : (st.ctx w β φ).Le ((st.addObj (.vec sz true [])).ctx w β1 φ1) := le1
 have hp : AVRel ((st.addObj (.vec sz true [])).ctx w β1 φ1) (.one (.own st.next)) (.slice ad 0 0) := hp
 have eo1 : (st.addObj (.vec sz true [])).obj o = .box cells := by rw [St.obj_addObj_ne _ _ (by omega)]; exact eo
 have ho1 := sr1.objs o
 unfold ObjRel at ho1
 rw [show ((st.addObj (.vec sz true [])).ctx w β1 φ1).ob o = _ from eo1] at ho1
 obtain ⟨b', T', vs', f1, f2, f3, f4⟩ := ho1
 have hβ : β1 o = β o := (le1.obj o hon (by rw [show (st.ctx w β φ).ob o = _ from eo]; simp)).2 (by rw [show ((st.addObj (.vec sz true [])).ctx w β1 φ1).ob o = _ from eo1]; simp)
 have hbb : b' = b := by
  have f1' : (β1 o).base = some ⟨b', 0, none⟩ := f1
  have e1' : (β o).base = some ⟨b, 0, none⟩ := e1
  rw [hβ, e1'] at f1'
  cases f1'; rfl
 subst hbb
 have hvv : vs' = vs := by
  have e3' : w.heap[b']? = some (.cells vs T (0, 0)) := e3
  have f3' : w.heap[b']? = some (.cells vs' T' (0, 0)) := f3
  rw [e3'] at f3'
  cases f3'; rfl
 subst hvv
 let st2 := (st.addObj (.vec sz true [])).setObj o (.box (cells.set j (.own st.next)))
 have on2 : ∀ k, k ≠ o -> st2.obj k = (st.addObj (.vec sz true [])).obj k := fun k hk => St.obj_setObj_ne _ _ hk
 have ok2 : st2.obj o = .box (cells.set j (.own st.next)) := St.obj_setObj_same _ _ _
 obtain ⟨le2, sr2⟩ := sr1.change (st' := st2) (β' := β1) (φ' := φ1) (w' := w) (fun k => k = o) rfl (Nat.le_refl _) (fun k hk => on2 k hk) (fun _ _ => rfl) (fun _ _ => rfl)
  (fun k hk => by
    have hk' : st.next + 1 <= k := hk
    rw [on2 k (by omega)]
    exact sr1.dead k hk)
  (fun k hk hl => by
    subst hk
    rw [ok2, show (st.addObj (.vec sz true [])).obj k = _ from eo1]
    exact ⟨trivial, fun _ => rfl⟩)
  (Frm.refl w _)
  (fun le k hk => by
    subst hk
    unfold ObjRel
    rw [show (st2.ctx w β1 φ1).ob k = _ from ok2]
    refine ⟨b', T', vs', f1, f2, f3, by rw [List.length_set]; exact f4.1, fun i l hi => ?_⟩
    by_cases hij : j = i
    ·subst hij
     have hlt : j < cells.length := (List.getElem?_eq_some_iff.1 hj).1
     rw [List.getElem?_set_self hlt] at hi
     cases hi
     refine ⟨_, hv, ?_⟩
     exact AVRel.mono le (a := .one (.own st.next)) hp
    ·rw [List.getElem?_set_ne hij] at hi
     obtain ⟨u, hu, hr⟩ := f4.2 i l hi
     exact ⟨u, hu, AVRel.mono le (a := .one l) hr⟩)
  (fun k hk => sr1.nodup k)
  (fun k hk x hx => ⟨(sr1.fp k x hx).1, .inr ⟨k, hk, hx⟩⟩)
  (fun k k' hk hk' hne => absurd (hk.trans hk'.symm) hne)
 exact ⟨β1, φ1, sr2⟩
theorem c170 (l : List Cmd) (hl : l.length <= 1048576) : Ctr prog 170 [.one (.dat (.sl 3 (l.map encCmd)))] [] (.one (.own 0)) [.vec 3 true (l.map encCmd)] := by
 have hfl : ∀ r ∈ l.map encCmd, ∀ d ∈ r, d.flat = true := by simp [encCmd, D.flat]
 refine Ctr.bd mixed func170 rfl ?_
 refine sv20 ?_
 refine scs ?_
 refine Fin.nt results170 [1] ?_ ?_ ?_ <;> try trivial
 all_goals exact entd
def memZ : Mem := ⟨⟨List.replicate 384 0, List.replicate 6 (-1)⟩, ⟨List.replicate 3 zeroSList, List.replicate 9 zeroSList⟩⟩
def baseZ : Base := ⟨memZ, ⟨0, List.replicate 3 ⟨false, 0, false, 0⟩⟩, List.replicate 3 zeroLList, List.replicate 3 0⟩
def tableNewM (l : List TQueue) : Table := bif todosOk l then ⟨baseZ, List.replicate 2 zeroBkt, List.replicate 3 zeroTJob, l, [], 0⟩ else zeroTable
theorem sum_most {α : Type} (f : α -> Nat) (c : Nat) : ∀ (l : List α), (∀ x ∈ l, f x <= c) -> (l.map f).sum <= l.length * c
 | [], _ => by simp
 | x :: l, h => by
  have h1 := sum_most f c l fun y hy => h y (by simp [hy])
  have h2 := h x (by simp)
  simp only [List.map_cons, List.sum_cons, List.length_cons]
  rw [Nat.add_mul]; omega
theorem todosOk_siz {l : List TQueue} (h : todosOk l = true) : sizTQueueS l <= 300 := by
 simp only [todosOk, Bool.and_eq_true, decide_eq_true_eq, List.all_eq_true] at h
 obtain ⟨h1, h2⟩ := h
 have hq : ∀ q ∈ l, sizTQueue q <= 84 := fun q hq => by
  have h3 := h2 q hq
  simp only [queueOk, Bool.and_eq_true, decide_eq_true_eq, List.all_eq_true] at h3
  have hb : ∀ b ∈ q.List, sizBatch b <= 6 := fun b hb => by
   have h4 := h3.2 b hb
   unfold batchOk at h4
   unfold sizBatch
   cases hc : b.Collect with
   | true =>
    rw [hc] at h4
    simp only [cond_true, beq_iff_eq] at h4
    omega
   | false =>
    rw [hc] at h4
    simp only [cond_false, Bool.and_eq_true] at h4
    have h5 := h4.1
    simp only [within, decide_eq_true_eq] at h5
    omega
  have h5 := sum_most sizBatch 6 q.List hb
  unfold sizTQueue sizBatchS
  omega
 have h6 := sum_most sizTQueue 84 l hq
 unfold sizTQueueS
 have : l.length = 3 := by omega
 rw [this] at h6 ⊢
 omega
theorem tableNew_bnd {l : List TQueue} (hz : sizTQueueS l <= 1048576) : sizTable (tableNewM l) <= 1048576 /\ (tableNewM l).sok := by
 have h : sizTable (tableNewM l) <= 1048576 := by
  unfold tableNewM
  cases ht : todosOk l with
  | false => simp only [cond_false]; decide
  | true =>
   have h1 := todosOk_siz ht
   have hb : sizBase baseZ <= 1000 := by decide
   have hj : sizTJobS (List.replicate 3 zeroTJob) <= 1000 := by decide
   simp only [cond_true]
   unfold sizTable
   simp only [List.length_replicate]
   have hl : sizTEvS [] = 0 := rfl
   rw [hl]
   omega
 exact ⟨h, Table.sok_of h⟩
theorem c358 : Ctr prog 358 [.one (.dat (.int .u64 1)), .one (.dat (.int .u64 6))] [] (.tup [.one (.dat (.int .u64 0)), .one (.dat (.int .u64 6))]) [] := by
 refine Ctr.bd mixed func358 rfl ?_
 refine evl ?_
 refine Fin.nt results358 [] ?_ ?_ ?_ <;> try trivial
theorem c328 : Ctr prog 328 [.one (.dat (.int .u64 1)), .one (.dat (.int .u64 6))] [] (.tup [.one (.dat (.int .u64 0)), .one (.dat (.int .u64 6))]) [] := by
 refine Ctr.bd mixed func328 rfl ?_
 refine evl ?_
 refine scs ?_
 refine ck e358 (c358) rfl ?_
 refine evl ?_
 refine scs ?_
 refine Fin.nt results328 [] ?_ ?_ ?_ <;> try trivial
theorem c272 : Ctr prog 272 [.one (.dat (.sl 1 [[.int .i64 (-1)]])), .one (.dat (.int .i64 6))] [] (.one (.own 0)) [.vec 1 true (List.replicate 6 [.int .i64 (-1)])] := by
 have hmx : maxLen = 9223372036854775807 := rfl
 refine Ctr.bd mixed func272 rfl ?_
 refine evl ?_
 refine scs ?_
 refine ck e328 (c328) rfl ?_
 have hw6 : IntKind.i64.wrap 6 = 6 := by decide
 have hn1 : Nat.min 1 6 = 1 := rfl
 have ht6 : (6 : Int).toNat = 6 := rfl
 simp (maxSteps := 2000000) only [go_sem, seval, hw6, ht6, hn1, List.length_replicate, Int.cast_ofNat_Int]
 refine ⟨⟨by simp [D.flat], by simp [flatRows, D.flat]⟩, ?_⟩
 refine LoopK_intro (fun zn zs => ∃ (n : Nat), zn = 6 - n /\ (n = 1 \/ n = 2 \/ n = 4 \/ n = 6) /\ zs = mkSt [(7, .one (.own 0)), (8, .one (.dat (.int .i64 n)))] [.vec 1 true (List.replicate n [.int .i64 (-1)] ++ List.replicate (6 - n) [.int .i64 0])]) _ _
  (Ent.wk [0]) ⟨1, rfl, .inl rfl, rfl⟩ ?_
 rintro zn zs ⟨n, rfl, hinv, rfl⟩ K hK
 rcases hinv with rfl | rfl | rfl | rfl
 ·have hd : decide (((1 : Nat) : Int) < ((6 : Nat) : Int)) = true := rfl
  have hs : IntKind.i64.wrap (1 + ((Nat.min 1 5 : Nat) : Int)) = 2 := by decide
  refine sv22 ?_
  refine PlanP_intro (.step 0 (.step 1 (.step 2 (.step 4 (.step 5 (.two 3 (.step 6 (.step 7 (.step 8 (.step 9 .done)))) 6 (.step 3 (.step 7 (.step 8 (.step 9 .done)))))))))) (by kernel_rfl) ?_
  refine sv23 ?_
  refine ⟨⟨⟨by simp [flatRows, D.flat], by simp [flatRows, D.flat]⟩, ?_⟩, ⟨by simp [flatRows, D.flat], by simp [flatRows, D.flat]⟩, ?_⟩
  all_goals
   (apply hK
    exact ⟨_, _, by omega, Ent.wk [0], 2, rfl, .inr (.inl rfl), rfl⟩)
 ·have hd : decide (((2 : Nat) : Int) < ((6 : Nat) : Int)) = true := rfl
  have hs : IntKind.i64.wrap (2 + ((Nat.min 2 4 : Nat) : Int)) = 4 := by decide
  refine sv22 ?_
  refine PlanP_intro (.step 0 (.step 1 (.step 2 (.step 4 (.step 5 (.two 3 (.step 6 (.step 7 (.step 8 (.step 9 .done)))) 6 (.step 3 (.step 7 (.step 8 (.step 9 .done)))))))))) (by kernel_rfl) ?_
  refine sv23 ?_
  refine ⟨⟨⟨by simp [flatRows, D.flat], by simp [flatRows, D.flat]⟩, ?_⟩, ⟨by simp [flatRows, D.flat], by simp [flatRows, D.flat]⟩, ?_⟩
  all_goals
   (apply hK
    exact ⟨_, _, by omega, Ent.wk [0], 4, rfl, .inr (.inr (.inl rfl)), rfl⟩)
 ·have hd : decide (((4 : Nat) : Int) < ((6 : Nat) : Int)) = true := rfl
  have hs : IntKind.i64.wrap (4 + ((Nat.min 4 2 : Nat) : Int)) = 6 := by decide
  refine sv22 ?_
  refine PlanP_intro (.step 0 (.step 1 (.step 2 (.step 4 (.step 5 (.two 3 (.step 6 (.step 7 (.step 8 (.step 9 .done)))) 6 (.step 3 (.step 7 (.step 8 (.step 9 .done)))))))))) (by kernel_rfl) ?_
  refine sv23 ?_
  refine ⟨⟨⟨by simp [flatRows, D.flat], by simp [flatRows, D.flat]⟩, ?_⟩, ⟨by simp [flatRows, D.flat], by simp [flatRows, D.flat]⟩, ?_⟩
  all_goals
   (apply hK
    exact ⟨_, _, by omega, Ent.wk [0], 6, rfl, .inr (.inr (.inr rfl)), rfl⟩)
 ·have hd : decide (((6 : Nat) : Int) < ((6 : Nat) : Int)) = false := rfl
  simp (maxSteps := 2000000) only [go_sem, seval, hd]
  apply hK
  refine evl ?_
  refine Fin.nt results272 [0] ?_ ?_ ?_ <;> try trivial
  all_goals exact entd
theorem c177 : Ctr prog 177 [] [] (.agg [.own 0, .own 1]) [.vec 1 true (List.replicate 384 [.int .i64 0]), .vec 1 true (List.replicate 6 [.int .i64 (-1)])] := by
 refine Ctr.bd mixed func177 rfl ?_
 refine evl ?_
 repeat ((with_reducible show _ = true /\ _); refine ⟨by kernel_rfl, ?_⟩)
 refine scs ?_
 refine ck e272 (c272) rfl ?_
 refine evl ?_
 repeat ((with_reducible show _ = true /\ _); refine ⟨by kernel_rfl, ?_⟩)
 refine scs ?_
 refine Fin.nt results177 [1, 3] ?_ ?_ ?_ <;> try trivial
 all_goals exact entd
theorem c178 : Ctr prog 178 [] [] (.agg [.own 0, .own 1]) [.vec 1 true (List.replicate 3 [.sl 1 []]), .vec 1 true (List.replicate 9 [.sl 1 []])] := by
 refine Ctr.bd mixed func178 rfl ?_
 refine evl ?_
 repeat ((with_reducible show _ = true /\ _); refine ⟨by kernel_rfl, ?_⟩)
 refine scs ?_
 repeat ((with_reducible show _ = true /\ _); refine ⟨by kernel_rfl, ?_⟩)
 refine Fin.nt results178 [1, 2] ?_ ?_ ?_ <;> try trivial
 all_goals exact entd
theorem c169 : Ctr prog 169 [] [] (.agg [.own 0, .own 1]) [.vec 1 true (List.replicate 3 [.sl 1 []]), .vec 1 true (List.replicate 9 [.sl 1 []])] := by
 refine Ctr.bd mixed func169 rfl ?_
 refine evl ?_
 repeat ((with_reducible show _ = true /\ _); refine ⟨by kernel_rfl, ?_⟩)
 refine scs ?_
 repeat ((with_reducible show _ = true /\ _); refine ⟨by kernel_rfl, ?_⟩)
 refine Fin.nt results169 [1, 2] ?_ ?_ ?_ <;> try trivial
 all_goals exact entd
theorem c168 : Ctr prog 168 [] [] (.agg [.own 0, .own 1]) [.vec 1 true (List.replicate 384 [.int .i64 0]), .vec 1 true (List.replicate 6 [.int .i64 (-1)])] := by
 have hmx : maxLen = 9223372036854775807 := rfl
 refine Ctr.bd mixed func168 rfl ?_
 refine evl ?_
 refine scs ?_
 refine LoopK_ent (Ent_empBox (o := 2) (j := 1) (sz := 1) rfl rfl) ?_
 refine evl ?_
 refine LoopK_intro (fun zn zs => ∃ i : Nat, i <= 6 /\ zn = 6 - i /\ zs = mkSt [(2, .one (.dat (.int .i64 i))), (0, .one (.ptr (.own 0 0 0))), (1, .one (.ptr (.own 2 0 0)))] [.box [.emp, .emp], .vec 1 true (List.replicate 384 [.int .i64 0]), .box [.own 1, .own 3], .vec 1 true (List.replicate i [.int .i64 (-1)])]) (6) _
  (Ent.wk [0, 1, 2, 3]) ⟨0, by omega, by omega, rfl⟩ ?_
 rintro zn zs ⟨i, hi, rfl, rfl⟩ K hK
 rcases Nat.lt_or_ge i (6) with hlt | hge
 ·have hdi : decide ((i : Int) < ((6 : Nat) : Int)) = true := decide_eq_true (by omega)
  have hw := wrap_succ hlt (show 6 <= maxLen by decide)
  have hd3 : decide ((i : Int) < 6) = true := decide_eq_true (by omega)
  have hrs : List.replicate i [D.int .i64 (-1)] ++ [[D.int .i64 (-1)]] = List.replicate (i + 1) [D.int .i64 (-1)] := by rw [List.replicate_succ']
  simp (maxSteps := 2000000) only [go_sem, seval, hd3, hw, List.length_replicate, hrs]
  repeat ((with_reducible show _ = true /\ _); refine ⟨by kernel_rfl, ?_⟩)
  refine scs ?_
  (apply hK
   exact ⟨6 - (i + 1), _, by omega, Ent.wk [0, 1, 2, 5], i + 1, by omega, rfl, rfl⟩)
 ·have hge' : 6 = i := by omega
  subst hge'
  have hdi : decide (((6 : Nat) : Int) < ((6 : Nat) : Int)) = false := by simp
  have hd3 : decide (((6 : Nat) : Int) < 6) = false := rfl
  simp (maxSteps := 2000000) only [go_sem, seval, hd3]
  apply hK
  refine evl ?_
  refine scs ?_
  refine Fin.nt results168 [1, 3] ?_ ?_ ?_ <;> try trivial
  all_goals exact entd
theorem c86 : Ctr prog 86 [] [] (.agg [.own 0, .own 1, .own 2, .own 3]) [.vec 1 true (List.replicate 384 [.int .i64 0]), .vec 1 true (List.replicate 6 [.int .i64 (-1)]), .vec 1 true (List.replicate 3 [.sl 1 []]), .vec 1 true (List.replicate 9 [.sl 1 []])] := by
 refine Ctr.bd mixed func86 rfl ?_
 refine evl ?_
 refine scs ?_
 refine ck e177 (c177) rfl ?_
 refine evl ?_
 refine scs ?_
 refine ck e178 (c178) rfl ?_
 refine evl ?_
 refine scs ?_
 refine Fin.nt results86 [1, 2, 3, 4] ?_ ?_ ?_ <;> try trivial
 all_goals exact entd
theorem c75 : Ctr prog 75 [] [] (.agg [.own 0, .own 1, .own 2, .own 3]) [.vec 1 true (List.replicate 384 [.int .i64 0]), .vec 1 true (List.replicate 6 [.int .i64 (-1)]), .vec 1 true (List.replicate 3 [.sl 1 []]), .vec 1 true (List.replicate 9 [.sl 1 []])] := by
 refine Ctr.bd mixed func75 rfl ?_
 refine evl ?_
 refine scs ?_
 refine ck e168 (c168) rfl ?_
 refine evl ?_
 refine scs ?_
 refine ck e169 (c169) rfl ?_
 refine evl ?_
 refine scs ?_
 refine Fin.nt results75 [1, 2, 3, 4] ?_ ?_ ?_ <;> try trivial
 all_goals exact entd
theorem c87 : Ctr prog 87 [] [] (.agg [.dat (.int .i64 0), .own 0]) [.vec 4 true (List.replicate 3 [.bool false, .int .i64 0, .bool false, .int .i64 0])] := by
 refine Ctr.bd mixed func87 rfl ?_
 refine evl ?_
 refine scs ?_
 refine Fin.nt results87 [1] ?_ ?_ ?_ <;> try trivial
 all_goals exact entd
theorem c88 : Ctr prog 88 [] [] (.one (.own 0)) [.vec 1 true (List.replicate 3 [.sl 2 []])] := by
 refine Ctr.bd mixed func88 rfl ?_
 refine evl ?_
 refine scs ?_
 refine Fin.nt results88 [0] ?_ ?_ ?_ <;> try trivial
 all_goals exact entd
theorem c89 : Ctr prog 89 [] [] (.one (.own 0)) [.vec 1 true (List.replicate 3 [.int .i64 0])] := by
 refine Ctr.bd mixed func89 rfl ?_
 refine evl ?_
 refine scs ?_
 refine Fin.nt results89 [0] ?_ ?_ ?_ <;> try trivial
 all_goals exact entd
theorem c30 : Ctr prog 30 [] [] (.agg [.own 0, .own 1, .own 2, .own 3, .dat (.int .i64 0), .own 4, .own 5, .own 6]) [.vec 1 true (List.replicate 384 [.int .i64 0]), .vec 1 true (List.replicate 6 [.int .i64 (-1)]), .vec 1 true (List.replicate 3 [.sl 1 []]), .vec 1 true (List.replicate 9 [.sl 1 []]), .vec 4 true (List.replicate 3 [.bool false, .int .i64 0, .bool false, .int .i64 0]), .vec 1 true (List.replicate 3 [.sl 2 []]), .vec 1 true (List.replicate 3 [.int .i64 0])] := by
 refine Ctr.bd mixed func30 rfl ?_
 refine evl ?_
 refine scs ?_
 refine ck e86 (c86) rfl ?_
 refine evl ?_
 refine scs ?_
 refine ck e87 (c87) rfl ?_
 refine evl ?_
 refine scs ?_
 refine ck e88 (c88) rfl ?_
 refine evl ?_
 refine scs ?_
 refine ck e89 (c89) rfl ?_
 refine evl ?_
 refine scs ?_
 refine Fin.nt results30 [1, 2, 3, 4, 5, 6, 7] ?_ ?_ ?_ <;> try trivial
 all_goals exact entd
theorem c76 : Ctr prog 76 [] [] (.agg [.dat (.int .i64 0), .own 0]) [.vec 4 true (List.replicate 3 [.bool false, .int .i64 0, .bool false, .int .i64 0])] := by
 refine Ctr.bd mixed func76 rfl ?_
 refine evl ?_
 refine scs ?_
 refine Fin.nt results76 [1] ?_ ?_ ?_ <;> try trivial
 all_goals exact entd
theorem c77 : Ctr prog 77 [] [] (.one (.own 0)) [.vec 1 true (List.replicate 3 [.sl 2 []])] := by
 refine Ctr.bd mixed func77 rfl ?_
 refine evl ?_
 refine scs ?_
 refine Fin.nt results77 [0] ?_ ?_ ?_ <;> try trivial
 all_goals exact entd
theorem c78 : Ctr prog 78 [] [] (.one (.own 0)) [.vec 1 true (List.replicate 3 [.int .i64 0])] := by
 refine Ctr.bd mixed func78 rfl ?_
 refine evl ?_
 refine scs ?_
 refine Fin.nt results78 [0] ?_ ?_ ?_ <;> try trivial
 all_goals exact entd
theorem c26 : Ctr prog 26 [] [] (.agg [.own 0, .own 1, .own 2, .own 3, .dat (.int .i64 0), .own 4, .own 5, .own 6]) [.vec 1 true (List.replicate 384 [.int .i64 0]), .vec 1 true (List.replicate 6 [.int .i64 (-1)]), .vec 1 true (List.replicate 3 [.sl 1 []]), .vec 1 true (List.replicate 9 [.sl 1 []]), .vec 4 true (List.replicate 3 [.bool false, .int .i64 0, .bool false, .int .i64 0]), .vec 1 true (List.replicate 3 [.sl 2 []]), .vec 1 true (List.replicate 3 [.int .i64 0])] := by
 refine Ctr.bd mixed func26 rfl ?_
 refine evl ?_
 refine scs ?_
 refine ck e75 (c75) rfl ?_
 refine evl ?_
 refine scs ?_
 refine ck e76 (c76) rfl ?_
 refine evl ?_
 refine scs ?_
 refine ck e77 (c77) rfl ?_
 refine evl ?_
 refine scs ?_
 refine ck e78 (c78) rfl ?_
 refine evl ?_
 refine scs ?_
 refine Fin.nt results26 [1, 2, 3, 4, 5, 6, 7] ?_ ?_ ?_ <;> try trivial
 all_goals exact entd
theorem c90 (x : Batch) (hx : x.sok) : Ctr prog 90 [.agg ((encBatch x).map .dat)] [] (.agg [.dat (.bool x.Collect), .own 0]) [.vec 3 true (x.Cmds.map encCmd)] := by
 obtain ⟨q0, _⟩ := hx
 simp only [encBatch, List.map_cons, List.map_nil]
 refine Ctr.bd mixed func90 rfl ?_
 refine evl ?_
 refine scs ?_
 refine ck e179 (c179 x.Cmds (by omega)) rfl ?_
 refine evl ?_
 repeat ((with_reducible show _ = true /\ _); refine ⟨by kernel_rfl, ?_⟩)
 refine scs ?_
 refine Fin.nt results90 [2] ?_ ?_ ?_ <;> try trivial
 all_goals exact entd
theorem c79 (x : Batch) (hx : x.sok) : Ctr prog 79 [.agg ((encBatch x).map .dat)] [] (.agg [.dat (.bool x.Collect), .own 0]) [.vec 3 true (x.Cmds.map encCmd)] := by
 obtain ⟨q0, _⟩ := hx
 simp only [encBatch, List.map_cons, List.map_nil]
 refine Ctr.bd mixed func79 rfl ?_
 refine evl ?_
 refine scs ?_
 refine ck e170 (c170 x.Cmds q0) rfl ?_
 refine evl ?_
 repeat ((with_reducible show _ = true /\ _); refine ⟨by kernel_rfl, ?_⟩)
 refine scs ?_
 refine Fin.nt results79 [2] ?_ ?_ ?_ <;> try trivial
 all_goals exact entd
theorem c31 (l : List TQueue) (hl : l.length <= 1048576) (hq : ∀ x ∈ l, x.sok) : Ctr prog 31 [.one (.dat (.sl 1 (l.map encTQueue)))] [] (.one (.own 0)) [.vec 1 true (l.map encTQueue)] := by
 have hcb := fun x h => c90 x h
 simp only [encBatch, List.map_cons, List.map_nil] at hcb
 refine Ctr.bd mixed func31 rfl ?_
 refine evl ?_
 refine scs ?_
 refine LoopK_intro (fun zn zs => ∃ (i : Nat) (o : List TQueue), i <= l.length /\ zn = l.length - i /\ (l = o ++ l.drop i /\ o.length = i) /\ zs = mkSt [(12, .one (.dat (.int .i64 i))), (11, .one (.dat (.int .i64 (l.length)))), (10, .one (.dat (.sl 1 (l.map encTQueue)))), (3, .one (.own 0)), (0, .one (.dat (.sl 1 (l.map encTQueue))))] [.vec 1 true (o.map encTQueue)]) (l.length) _
  (Ent.wk [0]) ⟨0, [], by omega, by omega, ⟨rfl, rfl⟩, rfl⟩ ?_
 rintro zn zs ⟨i, o, hi, rfl, hinv, rfl⟩ K hK
 rcases Nat.lt_or_ge i (l.length) with hlt | hge
 ·have hdi : decide ((i : Int) < ((l.length : Nat) : Int)) = true := decide_eq_true (by omega)
  have hw := wrap_succ hlt (show l.length <= maxLen by unfold maxLen; omega)
  obtain ⟨hin, hol⟩ := hinv
  obtain ⟨q0, q1, _⟩ := hq l[i] (List.getElem_mem hlt)
  rw [List.drop_eq_getElem_cons hlt] at hin
  obtain ⟨x, hxi⟩ : ∃ x, l[i] = x := ⟨_, rfl⟩
  rw [hxi] at hin q0 q1
  have hxe : [D.sl 2 (x.List.map encBatch)] = encTQueue x := rfl
  obtain ⟨L, hL⟩ : ∃ L, x.List = L := ⟨_, rfl⟩
  rw [hL] at q0 q1 hxe
  simp (maxSteps := 2000000) only [go_sem, seval, hdi, hw, getD_map hlt, hxi, hL, encTQueue]
  refine scs ?_
  refine LoopK_ent (Ent_empBox (o := 2) (j := 0) (sz := 2) rfl rfl) ?_
  refine evl ?_
  refine LoopK_intro (fun zn zs => ∃ (k : Nat) (p : List Batch), k <= L.length /\ zn = L.length - k /\ (L = p ++ L.drop k /\ p.length = k) /\ zs = mkSt [(20, .one (.dat (.int .i64 k))), (19, .one (.dat (.int .i64 (L.length)))), (18, .one (.dat (.sl 2 (L.map encBatch)))), (3, .one (.own 0)), (10, .one (.dat (.sl 1 (l.map encTQueue)))), (11, .one (.dat (.int .i64 l.length))), (12, .one (.dat (.int .i64 i))), (5, .one (.ptr (.own 1 0 0))), (6, .one (.ptr (.own 2 0 0))), (0, .one (.dat (.sl 1 (l.map encTQueue))))] [.vec 1 true (o.map encTQueue), .box [.dat (.sl 2 (L.map encBatch))], .box [.own 3], .vec 2 true (p.map encBatch)]) (L.length) _
   (Ent.wk [0, 1, 2, 3]) ⟨0, [], by omega, by omega, ⟨rfl, rfl⟩, rfl⟩ ?_
  rintro zn zs ⟨k, p, hi2, rfl, hinv2, rfl⟩ K2 hK2
  rcases Nat.lt_or_ge k (L.length) with hlt2 | hge2
  ·have hdi2 : decide ((k : Int) < ((L.length : Nat) : Int)) = true := decide_eq_true (by omega)
   have hw2 := wrap_succ hlt2 (show L.length <= maxLen by unfold maxLen; omega)
   obtain ⟨hin2, hpl⟩ := hinv2
   have b0 := q1 L[k] (List.getElem_mem hlt2)
   rw [List.drop_eq_getElem_cons hlt2] at hin2
   obtain ⟨b, hbk⟩ : ∃ b, L[k] = b := ⟨_, rfl⟩
   rw [hbk] at hin2 b0
   refine sv24 ?_
   refine scs ?_
   refine FloatR_intro [(0, []), (1, []), (2, []), (3, [0, 1]), (4, [0, 1]), (5, []), (6, []), (7, [])] (by kernel_rfl) ?_
   refine sv24 ?_
   refine scs ?_
   refine ck e90 (hcb b b0) rfl ?_
   refine sv24 ?_
   refine scs ?_
   (apply hK2
    exact ⟨L.length - (k + 1), _, by omega, Ent.wk [0, 1, 2, 7], k + 1, (p ++ [b]), by omega, rfl, ⟨by rw [List.append_assoc]; exact hin2, by simp [hpl]⟩, rfl⟩)
  ·have hge2' : L.length = k := by omega
   subst hge2'
   have hdi2 : decide (((L.length : Nat) : Int) < ((L.length : Nat) : Int)) = false := by simp
   have hpe : L = p := by have := hinv2.1; rw [List.drop_length, List.append_nil] at this; exact this
   clear hinv2
   simp (maxSteps := 2000000) only [go_sem, seval, hdi2]
   apply hK2
   rw [<- hpe]
   simp (maxSteps := 2000000) only [go_sem, seval, hdi, hw]
   repeat ((with_reducible show _ = true /\ _); refine ⟨by kernel_rfl, ?_⟩)
   refine scs ?_
   rw [hxe]
   (apply hK
    exact ⟨l.length - (i + 1), _, by omega, Ent.wk [5], i + 1, (o ++ [x]), by omega, rfl, ⟨by rw [List.append_assoc]; exact hin, by simp [hol]⟩, rfl⟩)
 ·have hge' : l.length = i := by omega
  subst hge'
  have hdi : decide (((l.length : Nat) : Int) < ((l.length : Nat) : Int)) = false := by simp
  have hoe : l = o := by have := hinv.1; rw [List.drop_length, List.append_nil] at this; exact this
  clear hinv
  refine sv4 ?_
  apply hK
  refine evl ?_
  rw [hoe]
  refine Fin.nt results31 [0] ?_ ?_ ?_ <;> try trivial
  all_goals exact entd
theorem c27 (l : List TQueue) (hl : l.length <= 1048576) (hq : ∀ x ∈ l, x.sok) : Ctr prog 27 [.one (.dat (.sl 1 (l.map encTQueue)))] [] (.one (.own 0)) [.vec 1 true (l.map encTQueue)] := by
 have hcb := fun x h => c79 x h
 simp only [encBatch, List.map_cons, List.map_nil] at hcb
 refine Ctr.bd mixed func27 rfl ?_
 refine evl ?_
 refine scs ?_
 refine LoopK_intro (fun zn zs => ∃ (i : Nat) (o : List TQueue), i <= l.length /\ zn = l.length - i /\ (l = o ++ l.drop i /\ o.length = i) /\ zs = mkSt [(4, .one (.dat (.int .i64 i))), (3, .one (.own 0)), (0, .one (.dat (.sl 1 (l.map encTQueue))))] [.vec 1 true (o.map encTQueue)]) (l.length) _
  (Ent.wk [0]) ⟨0, [], by omega, by omega, ⟨rfl, rfl⟩, rfl⟩ ?_
 rintro zn zs ⟨i, o, hi, rfl, hinv, rfl⟩ K hK
 rcases Nat.lt_or_ge i (l.length) with hlt | hge
 ·have hdi : decide ((i : Int) < ((l.length : Nat) : Int)) = true := decide_eq_true (by omega)
  have hw := wrap_succ hlt (show l.length <= maxLen by unfold maxLen; omega)
  obtain ⟨hin, hol⟩ := hinv
  obtain ⟨q0, q1, _⟩ := hq l[i] (List.getElem_mem hlt)
  rw [List.drop_eq_getElem_cons hlt] at hin
  obtain ⟨x, hxi⟩ : ∃ x, l[i] = x := ⟨_, rfl⟩
  rw [hxi] at hin q0 q1
  have hxe : [D.sl 2 (x.List.map encBatch)] = encTQueue x := rfl
  obtain ⟨L, hL⟩ : ∃ L, x.List = L := ⟨_, rfl⟩
  rw [hL] at q0 q1 hxe
  simp (maxSteps := 2000000) only [go_sem, seval, hdi, hw, getD_map hlt, hxi, hL, encTQueue]
  refine scs ?_
  refine LoopK_ent (Ent_empBox (o := 1) (j := 0) (sz := 2) rfl rfl) ?_
  refine evl ?_
  refine LoopK_intro (fun zn zs => ∃ (k : Nat) (p : List Batch), k <= L.length /\ zn = L.length - k /\ (L = p ++ L.drop k /\ p.length = k) /\ zs = mkSt [(6, .one (.dat (.int .i64 k))), (3, .one (.own 0)), (4, .one (.dat (.int .i64 i))), (5, .one (.ptr (.own 1 0 0))), (0, .one (.dat (.sl 1 (l.map encTQueue))))] [.vec 1 true (o.map encTQueue), .box [.own 2], .vec 2 true (p.map encBatch)]) (L.length) _
   (Ent.wk [0, 1, 2]) ⟨0, [], by omega, by omega, ⟨rfl, rfl⟩, rfl⟩ ?_
  rintro zn zs ⟨k, p, hi2, rfl, hinv2, rfl⟩ K2 hK2
  rcases Nat.lt_or_ge k (L.length) with hlt2 | hge2
  ·have hdi2 : decide ((k : Int) < ((L.length : Nat) : Int)) = true := decide_eq_true (by omega)
   have hw2 := wrap_succ hlt2 (show L.length <= maxLen by unfold maxLen; omega)
   obtain ⟨hin2, hpl⟩ := hinv2
   have b0 := q1 L[k] (List.getElem_mem hlt2)
   rw [List.drop_eq_getElem_cons hlt2] at hin2
   obtain ⟨b, hbk⟩ : ∃ b, L[k] = b := ⟨_, rfl⟩
   rw [hbk] at hin2 b0
   refine sv25 ?_
   refine scs ?_
   refine FloatR_intro [(0, []), (1, []), (2, []), (3, []), (4, []), (5, []), (6, []), (7, []), (8, []), (9, []), (10, [0, 1]), (11, [0, 1]), (12, []), (13, []), (14, [])] (by kernel_rfl) ?_
   refine sv25 ?_
   refine scs ?_
   refine ck e79 (hcb b b0) rfl ?_
   refine sv25 ?_
   refine scs ?_
   (apply hK2
    exact ⟨L.length - (k + 1), _, by omega, Ent.wk [0, 1, 5], k + 1, (p ++ [b]), by omega, rfl, ⟨by rw [List.append_assoc]; exact hin2, by simp [hpl]⟩, rfl⟩)
  ·have hge2' : L.length = k := by omega
   subst hge2'
   have hdi2 : decide (((L.length : Nat) : Int) < ((L.length : Nat) : Int)) = false := by simp
   have hpe : L = p := by have := hinv2.1; rw [List.drop_length, List.append_nil] at this; exact this
   clear hinv2
   simp (maxSteps := 2000000) only [go_sem, seval, hdi, hw, getD_map hlt, hxi, hL, encTQueue, hdi2]
   refine scs ?_
   apply hK2
   rw [<- hpe]
   simp (maxSteps := 2000000) only [go_sem, seval, hdi, hw]
   repeat ((with_reducible show _ = true /\ _); refine ⟨by kernel_rfl, ?_⟩)
   refine scs ?_
   rw [hxe]
   (apply hK
    exact ⟨l.length - (i + 1), _, by omega, Ent.wk [4], i + 1, (o ++ [x]), by omega, rfl, ⟨by rw [List.append_assoc]; exact hin, by simp [hol]⟩, rfl⟩)
 ·have hge' : l.length = i := by omega
  subst hge'
  have hdi : decide (((l.length : Nat) : Int) < ((l.length : Nat) : Int)) = false := by simp
  have hoe : l = o := by have := hinv.1; rw [List.drop_length, List.append_nil] at this; exact this
  clear hinv
  refine sv4 ?_
  apply hK
  refine evl ?_
  rw [hoe]
  refine Fin.nt results27 [0] ?_ ?_ ?_ <;> try trivial
  all_goals exact entd
theorem c9 (l : List TQueue) (hz : sizTQueueS l <= 1048576) : Ctr prog 9 [.one (.dat (.sl 1 (l.map encTQueue)))] [] (.agg [.own 0, .own 1, .own 2, .own 3, .dat (.int .i64 (tableNewM l).Base.Clock.Epoch), .own 4, .own 5, .own 6, .own 7, .own 8, .own 9, .own 10, .dat (.int .i64 (tableNewM l).Serial)])
  [.vec 1 true ((tableNewM l).Base.Mem.Heap.Bytes.map encI), .vec 1 true ((tableNewM l).Base.Mem.Heap.Class.map encI), .vec 1 true ((tableNewM l).Base.Mem.Lists.Global.map encSList), .vec 1 true ((tableNewM l).Base.Mem.Lists.Own.map encSList), .vec 4 true ((tableNewM l).Base.Clock.Pins.map encPin), .vec 1 true ((tableNewM l).Base.Limbo.map encLList), .vec 1 true ((tableNewM l).Base.Haz.map encI), .vec 3 true ((tableNewM l).Bkts.map encBkt), .vec 32 true ((tableNewM l).Jobs.map encTJob), .vec 1 true ((tableNewM l).Todo.map encTQueue), .vec 6 true ((tableNewM l).Log.map encTEv)] := by
 have hmx : maxLen = 9223372036854775807 := rfl
 have hl : l.length <= 1048576 := by unfold sizTQueueS at hz; omega
 have hsq : ∀ x ∈ l, x.sok := fun x hx => TQueue.sok_of (by have := sum_mem sizTQueue hx; unfold sizTQueueS at hz; omega)
 have e1 : baseZ.Mem.Heap.Bytes.map encI = List.replicate 384 [.int .i64 0] := rfl
 have e2 : baseZ.Mem.Heap.Class.map encI = List.replicate 6 [.int .i64 (-1)] := rfl
 have e3 : baseZ.Mem.Lists.Global.map encSList = List.replicate 3 [.sl 1 []] := rfl
 have e4 : baseZ.Mem.Lists.Own.map encSList = List.replicate 9 [.sl 1 []] := rfl
 have e5 : baseZ.Clock.Pins.map encPin = List.replicate 3 [.bool false, .int .i64 0, .bool false, .int .i64 0] := rfl
 have e6 : baseZ.Limbo.map encLList = List.replicate 3 [.sl 2 []] := rfl
 have e7 : baseZ.Haz.map encI = List.replicate 3 [.int .i64 0] := rfl
 have e8 : (List.replicate 2 zeroBkt).map encBkt = List.replicate 2 [.int .i64 0, .int .i64 0, .int .i64 0] := rfl
 have e9 : (List.replicate 3 zeroTJob).map encTJob = List.replicate 3 (encTJob zeroTJob) := rfl
 have e10 : ([] : List TEv).map encTEv = [] := rfl
 have e11 : baseZ.Clock.Epoch = 0 := rfl
 have hb1 : (((24 : Nat) : Int) * 2 <= 281474976710656) = True := by simp
 have hb2 : (((368 : Nat) : Int) * 3 <= 281474976710656) = True := by simp
 have hco := c29 l hz
 cases h0 : todosOk l with
 | false =>
  rw [h0] at hco
  have hm : tableNewM l = zeroTable := by rw [tableNewM, h0]; rfl
  rw [hm]
  simp only [zeroTable, zeroBase, zeroMem, zeroHeap, zeroLists, zeroClock, List.map_nil]
  refine Ctr.bd mixed func9 rfl ?_
  refine sv20 ?_
  refine scs ?_
  refine ck e29 (hco) rfl ?_
  refine evl ?_
  repeat ((with_reducible show _ = true /\ _); refine ⟨by kernel_rfl, ?_⟩)
  refine scs ?_
  refine Fin.ent (Ent_empBox (o := 0) (j := 0) (sz := 1) rfl rfl) ?_
  refine Fin.ent (Ent_empBox (o := 0) (j := 1) (sz := 1) rfl rfl) ?_
  refine Fin.ent (Ent_empBox (o := 0) (j := 2) (sz := 1) rfl rfl) ?_
  refine Fin.ent (Ent_empBox (o := 0) (j := 3) (sz := 1) rfl rfl) ?_
  refine Fin.ent (Ent_empBox (o := 0) (j := 5) (sz := 4) rfl rfl) ?_
  refine Fin.ent (Ent_empBox (o := 0) (j := 6) (sz := 1) rfl rfl) ?_
  refine Fin.ent (Ent_empBox (o := 0) (j := 7) (sz := 1) rfl rfl) ?_
  refine Fin.ent (Ent_empBox (o := 0) (j := 8) (sz := 3) rfl rfl) ?_
  refine Fin.ent (Ent_empBox (o := 0) (j := 9) (sz := 32) rfl rfl) ?_
  refine Fin.ent (Ent_empBox (o := 0) (j := 10) (sz := 1) rfl rfl) ?_
  refine Fin.ent (Ent_empBox (o := 0) (j := 11) (sz := 6) rfl rfl) ?_
  refine evl ?_
  refine Fin.nt results9 [1, 2, 3, 4, 5, 6, 7, 8, 9, 10, 11] ?_ ?_ ?_ <;> try trivial
  all_goals first | exact ⟨rfl, rfl, rfl, rfl, rfl, rfl, rfl, rfl, rfl, rfl, rfl⟩ | rfl | (simp [objsLe, envLe, find, St.obj, AObj.renF, AV.renF, AV.renF1, Leaf.renF, LowAll, AV.Low, AV.Low1, Leaf.Low, AObj.Low, Ptr.renF, Ptr.Low])
 | true =>
  rw [h0] at hco
  have hm : tableNewM l = ⟨baseZ, List.replicate 2 zeroBkt, List.replicate 3 zeroTJob, l, [], 0⟩ := by rw [tableNewM, h0]; rfl
  rw [hm]
  simp only [e1, e2, e3, e4, e5, e6, e7, e8, e9, e10, e11]
  refine Ctr.bd mixed func9 rfl ?_
  refine sv20 ?_
  refine scs ?_
  refine ck e29 (hco) rfl ?_
  refine evl ?_
  repeat ((with_reducible show _ = true /\ _); refine ⟨by kernel_rfl, ?_⟩)
  refine scs ?_
  refine FloatE_intro [(3, []), (0, [3]), (4, []), (1, [3]), (2, [3]), (5, []), (6, [])] [1, 2] (by kernel_rfl) ?_
  refine sv26 ?_
  repeat with_reducible intro ff
  refine scs ?_
  refine ck e30 (c30) rfl ?_
  refine sv26 ?_
  repeat with_reducible intro ff
  repeat ((with_reducible show _ = true /\ _); refine ⟨by kernel_rfl, ?_⟩)
  refine scs ?_
  refine ck e31 (c31 l hl hsq) rfl ?_
  refine sv26 ?_
  repeat with_reducible intro ff
  repeat ((with_reducible show _ = true /\ _); refine ⟨by kernel_rfl, ?_⟩)
  refine scs ?_
  refine Fin.ent (Ent_empBox (o := 0) (j := 11) (sz := 6) rfl rfl) ?_
  refine evl ?_
  refine Fin.nt results9 [3, 4, 5, 6, 7, 8, 9, 1, 2, 10, 11] ?_ ?_ ?_ <;> try trivial
  all_goals first | rfl | (simp [objsLe, envLe, find, St.obj, AObj.renF, AV.renF, AV.renF1, Leaf.renF, LowAll, AV.Low, AV.Low1, Leaf.Low, AObj.Low, Ptr.renF, Ptr.Low]; try rfl)
theorem c7 (l : List TQueue) (hz : sizTQueueS l <= 1048576) : Ctr prog 7 [.one (.dat (.sl 1 (l.map encTQueue)))] [] (.agg [.own 0, .own 1, .own 2, .own 3, .dat (.int .i64 (tableNewM l).Base.Clock.Epoch), .own 4, .own 5, .own 6, .own 7, .own 8, .own 9, .own 10, .dat (.int .i64 (tableNewM l).Serial)])
  [.vec 1 true ((tableNewM l).Base.Mem.Heap.Bytes.map encI), .vec 1 true ((tableNewM l).Base.Mem.Heap.Class.map encI), .vec 1 true ((tableNewM l).Base.Mem.Lists.Global.map encSList), .vec 1 true ((tableNewM l).Base.Mem.Lists.Own.map encSList), .vec 4 true ((tableNewM l).Base.Clock.Pins.map encPin), .vec 1 true ((tableNewM l).Base.Limbo.map encLList), .vec 1 true ((tableNewM l).Base.Haz.map encI), .vec 3 true ((tableNewM l).Bkts.map encBkt), .vec 32 true ((tableNewM l).Jobs.map encTJob), .vec 1 true ((tableNewM l).Todo.map encTQueue), .vec 6 true ((tableNewM l).Log.map encTEv)] := by
 have hmx : maxLen = 9223372036854775807 := rfl
 have hl : l.length <= 1048576 := by unfold sizTQueueS at hz; omega
 have hsq : ∀ x ∈ l, x.sok := fun x hx => TQueue.sok_of (by have := sum_mem sizTQueue hx; unfold sizTQueueS at hz; omega)
 have e1 : baseZ.Mem.Heap.Bytes.map encI = List.replicate 384 [.int .i64 0] := rfl
 have e2 : baseZ.Mem.Heap.Class.map encI = List.replicate 6 [.int .i64 (-1)] := rfl
 have e3 : baseZ.Mem.Lists.Global.map encSList = List.replicate 3 [.sl 1 []] := rfl
 have e4 : baseZ.Mem.Lists.Own.map encSList = List.replicate 9 [.sl 1 []] := rfl
 have e5 : baseZ.Clock.Pins.map encPin = List.replicate 3 [.bool false, .int .i64 0, .bool false, .int .i64 0] := rfl
 have e6 : baseZ.Limbo.map encLList = List.replicate 3 [.sl 2 []] := rfl
 have e7 : baseZ.Haz.map encI = List.replicate 3 [.int .i64 0] := rfl
 have e8 : (List.replicate 2 zeroBkt).map encBkt = List.replicate 2 [.int .i64 0, .int .i64 0, .int .i64 0] := rfl
 have e9 : (List.replicate 3 zeroTJob).map encTJob = List.replicate 3 (encTJob zeroTJob) := rfl
 have e10 : ([] : List TEv).map encTEv = [] := rfl
 have e11 : baseZ.Clock.Epoch = 0 := rfl
 have hb1 : (((24 : Nat) : Int) * 2 <= 281474976710656) = True := by simp
 have hb2 : (((368 : Nat) : Int) * 3 <= 281474976710656) = True := by simp
 have hco := c25 l hz
 cases h0 : todosOk l with
 | false =>
  rw [h0] at hco
  have hm : tableNewM l = zeroTable := by rw [tableNewM, h0]; rfl
  rw [hm]
  simp only [zeroTable, zeroBase, zeroMem, zeroHeap, zeroLists, zeroClock, List.map_nil]
  refine Ctr.bd mixed func7 rfl ?_
  refine sv20 ?_
  refine scs ?_
  refine ck e25 (hco) rfl ?_
  refine evl ?_
  repeat ((with_reducible show _ = true /\ _); refine ⟨by kernel_rfl, ?_⟩)
  refine scs ?_
  refine Fin.ent (Ent_empBox (o := 0) (j := 0) (sz := 1) rfl rfl) ?_
  refine Fin.ent (Ent_empBox (o := 0) (j := 1) (sz := 1) rfl rfl) ?_
  refine Fin.ent (Ent_empBox (o := 0) (j := 2) (sz := 1) rfl rfl) ?_
  refine Fin.ent (Ent_empBox (o := 0) (j := 3) (sz := 1) rfl rfl) ?_
  refine Fin.ent (Ent_empBox (o := 0) (j := 5) (sz := 4) rfl rfl) ?_
  refine Fin.ent (Ent_empBox (o := 0) (j := 6) (sz := 1) rfl rfl) ?_
  refine Fin.ent (Ent_empBox (o := 0) (j := 7) (sz := 1) rfl rfl) ?_
  refine Fin.ent (Ent_empBox (o := 0) (j := 8) (sz := 3) rfl rfl) ?_
  refine Fin.ent (Ent_empBox (o := 0) (j := 9) (sz := 32) rfl rfl) ?_
  refine Fin.ent (Ent_empBox (o := 0) (j := 10) (sz := 1) rfl rfl) ?_
  refine Fin.ent (Ent_empBox (o := 0) (j := 11) (sz := 6) rfl rfl) ?_
  refine evl ?_
  refine Fin.nt results7 [1, 2, 3, 4, 5, 6, 7, 8, 9, 10, 11] ?_ ?_ ?_ <;> try trivial
  all_goals first | exact ⟨rfl, rfl, rfl, rfl, rfl, rfl, rfl, rfl, rfl, rfl, rfl⟩ | rfl | (simp [objsLe, envLe, find, St.obj, AObj.renF, AV.renF, AV.renF1, Leaf.renF, LowAll, AV.Low, AV.Low1, Leaf.Low, AObj.Low, Ptr.renF, Ptr.Low])
 | true =>
  rw [h0] at hco
  have hm : tableNewM l = ⟨baseZ, List.replicate 2 zeroBkt, List.replicate 3 zeroTJob, l, [], 0⟩ := by rw [tableNewM, h0]; rfl
  rw [hm]
  simp only [e1, e2, e3, e4, e5, e6, e7, e8, e9, e10, e11]
  refine Ctr.bd mixed func7 rfl ?_
  refine sv20 ?_
  refine scs ?_
  refine ck e25 (hco) rfl ?_
  refine evl ?_
  repeat ((with_reducible show _ = true /\ _); refine ⟨by kernel_rfl, ?_⟩)
  refine scs ?_
  refine FloatE_intro [(3, []), (0, [3]), (4, []), (1, [3]), (2, [3]), (5, []), (6, [])] [1, 2] (by kernel_rfl) ?_
  refine sv26 ?_
  repeat with_reducible intro ff
  refine scs ?_
  refine ck e26 (c26) rfl ?_
  refine sv26 ?_
  repeat with_reducible intro ff
  repeat ((with_reducible show _ = true /\ _); refine ⟨by kernel_rfl, ?_⟩)
  refine scs ?_
  refine ck e27 (c27 l hl hsq) rfl ?_
  refine sv26 ?_
  repeat with_reducible intro ff
  repeat ((with_reducible show _ = true /\ _); refine ⟨by kernel_rfl, ?_⟩)
  refine scs ?_
  refine Fin.ent (Ent_empBox (o := 0) (j := 11) (sz := 6) rfl rfl) ?_
  refine evl ?_
  refine Fin.nt results7 [3, 4, 5, 6, 7, 8, 9, 1, 2, 10, 11] ?_ ?_ ?_ <;> try trivial
  all_goals first | rfl | (simp [objsLe, envLe, find, St.obj, AObj.renF, AV.renF, AV.renF1, Leaf.renF, LowAll, AV.Low, AV.Low1, Leaf.Low, AObj.Low, Ptr.renF, Ptr.Low]; try rfl)
end Go.Proofs.YtkmmgklnoagedaaGreat.Mod
namespace Go.Proofs.YtkmmgklnoagedaaGreat.fnExactTableNew
open Go.Proofs.Tryz Go.Abs Go.Proofs.YtkmmgklnoagedaaGreat.Ty Go.ChangeShapes Go.WideShapes Go.ChangeAt Go.RowKit Go.Proofs.YtkmmgklnoagedaaGreat.Mod
set_option linter.unusedSimpArgs false
set_option linter.unusedVariables false
set_option maxHeartbeats 8000000
set_option maxRecDepth 100000
theorem c3 (l : List TQueue) (hll : l.length <= maxLen) (hkl : ∀ y ∈ l, y.lok) : Ctr prog 3 [.one (.dat (.sl 1 (l.map encTQueue)))] [] (.one (.dat (.bool true))) [] := by
 refine Ctr.bd mixed func3 rfl ?_
 refine sv20 ?_
 repeat ((with_reducible show _ = true /\ _); refine ⟨by kernel_rfl, ?_⟩)
 refine CallK_pure e6 (c6 l hll hkl 1048576 (by decide) (by decide)) rfl ?_
 refine sv20 ?_
 repeat ((with_reducible show _ = true /\ _); refine ⟨by kernel_rfl, ?_⟩)
 constructor <;> intro h
 ·refine Fin.nt results3 [] ?_ ?_ ?_ <;> try trivial
 obtain ⟨hsl, hzl, hgl, hhl⟩ := szL_le (by decide) h
 clear h
 repeat ((with_reducible show _ = true /\ _); refine ⟨by kernel_rfl, ?_⟩)
 have hnl : l.length <= 1048576 := by unfold sizTQueueS at hsl; omega
 have hokl : ∀ x ∈ l, x.sok := fun x hx => TQueue.sok_of (by have := sum_mem sizTQueue hx; unfold sizTQueueS at hsl; omega)
 have hcnl := cntTQueueS_le l
 have hmx : maxLen = 9223372036854775807 := rfl
 obtain ⟨hr, hrk⟩ := tableNew_bnd hsl
 have hrc := mcTable_le (tableNewM l)
 refine ck e8 (c8 l hsl) rfl ?_
 refine sv20 ?_
 repeat ((with_reducible show _ = true /\ _); refine ⟨by kernel_rfl, ?_⟩)
 refine ck e7 (c7 l hsl) rfl ?_
 refine sv20 ?_
 repeat ((with_reducible show _ = true /\ _); refine ⟨by kernel_rfl, ?_⟩)
 refine ck e8 (c8 l hsl) rfl ?_
 refine sv20 ?_
 repeat ((with_reducible show _ = true /\ _); refine ⟨by kernel_rfl, ?_⟩)
 refine ck e9 (c9 l hsl) rfl ?_
 refine sv20 ?_
 repeat ((with_reducible show _ = true /\ _); refine ⟨by kernel_rfl, ?_⟩)
 refine ck e10 (c10 (tableNewM l) (tableNewM l) hr hr) rfl ?_
 refine sv20 ?_
 repeat ((with_reducible show _ = true /\ _); refine ⟨by kernel_rfl, ?_⟩)
 refine ck e8 (c8 l hsl) rfl ?_
 refine sv20 ?_
 repeat ((with_reducible show _ = true /\ _); refine ⟨by kernel_rfl, ?_⟩)
 refine ck e11 (c11 l l hsl hsl) rfl ?_
 refine sv20 ?_
 repeat ((with_reducible show _ = true /\ _); refine ⟨by kernel_rfl, ?_⟩)
 refine CallK_os [13] e12 (by simp [osOk, St.obj, find]) (c12_v l hnl hokl 1 (by omega) (by omega)) rfl ?_
 refine sv20 ?_
 repeat ((with_reducible show _ = true /\ _); refine ⟨by kernel_rfl, ?_⟩)
 have hkk : decide ((1 + (cntTQueueS l : Int)) < 0) = false := by simp only [decide_eq_false_iff_not]; omega
 refine sv27 ?_
 repeat ((with_reducible show _ = true /\ _); refine ⟨by kernel_rfl, ?_⟩)
 refine ck e10 (c10 (tableNewM l) (tableNewM l) hr hr) rfl ?_
 refine sv27 ?_
 repeat ((with_reducible show _ = true /\ _); refine ⟨by kernel_rfl, ?_⟩)
 refine CallK_os [14, 15, 16, 17, 18, 19, 20, 21, 22, 23, 24] e13 (by simp [osOk, St.obj, find]) (c13_e (tableNewM l) hrk 1 (by omega) (by omega)) rfl ?_
 refine sv27 ?_
 repeat ((with_reducible show _ = true /\ _); refine ⟨by kernel_rfl, ?_⟩)
 refine ck e14 (c14 (tableNewM l) hrk 1 (by omega) (by omega)) rfl ?_
 refine sv27 ?_
 repeat ((with_reducible show _ = true /\ _); refine ⟨by kernel_rfl, ?_⟩)
 have hq11 : decide ((1 + (mcTable (tableNewM l) : Int)) < 0) = false := by simp only [decide_eq_false_iff_not]; omega
 refine sv28 ?_
 repeat ((with_reducible show _ = true /\ _); refine ⟨by kernel_rfl, ?_⟩)
 refine ck e8 (c8 l hsl) rfl ?_
 refine sv28 ?_
 repeat ((with_reducible show _ = true /\ _); refine ⟨by kernel_rfl, ?_⟩)
 refine ck e9 (c9 l hsl) rfl ?_
 refine sv28 ?_
 repeat ((with_reducible show _ = true /\ _); refine ⟨by kernel_rfl, ?_⟩)
 refine ck e10 (c10 (tableNewM l) (tableNewM l) hr hr) rfl ?_
 refine sv28 ?_
 repeat ((with_reducible show _ = true /\ _); refine ⟨by kernel_rfl, ?_⟩)
 refine ck e14 (c14 (tableNewM l) hrk 1 (by omega) (by omega)) rfl ?_
 refine sv28 ?_
 repeat ((with_reducible show _ = true /\ _); refine ⟨by kernel_rfl, ?_⟩)
 refine Fin.nt results3 [] ?_ ?_ ?_ <;> try trivial
theorem law (dss : List (List D)) (h : WTAll prog 8 f3.params.toList dss) : Ctr prog 3 (argAVs prog f3.params.toList dss) [] (.one (.dat (.bool true))) [] := by
 rw [params3] at *
 simp only [WTAll, List.toList_toArray] at h
 obtain ⟨_, _, rfl, h0, rfl⟩ := h
 obtain ⟨x0, rfl, c0, w0⟩ := decSl (enc := encTQueue) (q := fun x => x.wf /\ x.lok) underlying22 tc_79 decTQueue h0
 simp only [argAVs, argAV, List.toList_toArray, underlying22, List.headD_cons]
 exact c3 x0 c0 (fun y hy => (w0 y hy).2)

theorem own : ownKnob prog.godebug = none := by kernel_rfl

set_option maxRecDepth 100000 in
theorem lifted (os : Os) (started : os.Started) (H : Type) (enc : TypeId × Value -> H) :
  ReturnsInHanded {} Tryz.checked os 3 .any (Rows.fnExactTableNewSpec.pre6 enc prog f3 Rows.fnExactTableNewRow.domain false) (Rows.fnExactTableNewSpec.post enc prog f3 false true false false) := by
 refine returnsInHanded_of_change (C := Tryz.checked) own started (by kernel_rfl) func3
  (ChangeSpec.witness6 (enc := enc) (C := Tryz.checked) false ⟨#[], #[.slice none 0 0], []⟩ 8 (by kernel_rfl) (by kernel_rfl) (by kernel_rfl) (by kernel_rfl)) ?_
 intro W base args ds gs before hval0 hW hcnd _
 have hW' := hW
 obtain ⟨p, q, hA0, hV, rfl, hfz, hnd⟩ := hW'
 have hA : DataW.TrodAll enc prog W 0 (fun _ => true) true f3.params.toList args.toList ds p := hA0
 obtain ⟨dss, h1, h2⟩ := args_rep (n := 8) (by kernel_rfl) (fun j t v hj hv => hval0 j t v (by simpa using hj) (by simpa using hv)) hA
 have hs : Rows.fnExactTableNewSpec.fn H (ds ++ gs) = { results := [.lit (.bool true)], args := ds, vars := [] } := by
  obtain ⟨rfl, rfl⟩ := trodVars_none hV
  rw [params3] at hA
  obtain ⟨v0, vs0, d0, ds0, p0, q0, _, rfl, _, _, r0⟩ := trodAll_cons hA
  obtain ⟨_, rfl, _⟩ := trodAll_nil r0
  rfl
 have hc := law_calls (law dss h1) h2
 rw [Array.toArray_toList] at hc
 refine hc.mono fun e W' ⟨he, hb⟩ => ?_
 subst he
 exact ⟨_, rfl, law_post (by kernel_rfl) (by kernel_rfl) rfl hW hs rfl underlying4 hb⟩

theorem closed : joinedFacts prog 3 f3 Rows.fnExactTableNewSpec Rows.fnExactTableNewRow = true := by
 unfold joinedFacts
 simp only [Bool.and_eq_true, Whole.laidOut, Whole.rowed, Whole.stops, Whole.knobs, Whole.keys, Whole.heard, Whole.enter, Whole.lifts, Whole.make, true_and, and_true]
 repeat' (refine And.intro ?_ ?_)
 all_goals (as_aux_lemma => kernel_rfl)

theorem over : Rows.fnExactTableNewRow.holds Tryz.pinned (OpenSpec.ofChange Rows.fnExactTableNewSpec) :=
 OpenClaim.holds_of_wide 3 f3 rfl rfl rfl rfl rfl rfl rfl ⟨rfl, rfl, rfl, rfl, rfl⟩ rfl rfl rfl rfl rfl (by kernel_rfl) func3 closed
  (of_decide_eq_true (by kernel_rfl)) (by unfold Func.isWrapper; first | (rw [if_pos (by decide +kernel)]; kernel_rfl) | (rw [if_neg (by decide +kernel)]; exact ⟨rfl, rfl⟩))
  (fun os started H enc _ => lifted os started H enc)

theorem proved : Rows.FnExactTableNewSaid :=
 over
end Go.Proofs.YtkmmgklnoagedaaGreat.fnExactTableNew
