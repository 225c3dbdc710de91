import Derived.Test.YtkmmgklnoagedaaGreatRows
import Derived.Test.YtkmmgklnoagedaaGreatQATy
import Derived.Test.YtkmmgklnoagedaaGreatQAbsTac
import Derived.Test.YtkmmgklnoagedaaGreatQAbsData
import Derived.Test.YtkmmgklnoagedaaGreatQALists
import Derived.WalkKit
import Derived.ProofKit
import Derived.OpenShut
/- Contracts: Store. -/
namespace Go.Proofs.YtkmmgklnoagedaaGreat.Mod
open Go.Proofs.Tryz Go.Abs Go.Proofs.YtkmmgklnoagedaaGreat.Ty Go.ChangeShapes Go.WideShapes Go.ChangeAt Go.RowKit
set_option linter.unusedSimpArgs false
set_option linter.unusedVariables false
set_option maxHeartbeats 8000000
set_option maxRecDepth 100000
theorem bw {b : Bool} (h : (!b) = true) : b = false := by simpa using h
theorem bx {b : Bool} (h : (!b) = false) : b = true := by simpa using h
def listFitsM (h : Heap) (l : List Int) (c : Int) : Bool := l.all fun s => (classInM h s == c) && decide (genInM h s <= 6)
def stateM (m : Mem) (s : Int) : Int := if classInM m.Heap s < 0 then 0 else if onListM m.Lists s = true then 1 else if 6 < genInM m.Heap s then 2 else 3
def isLiveM (m : Mem) (h : Int) : Bool := handleOk h && (stateM m (h % 32) == 3) && (genInM m.Heap (h % 32) == h / 32)
def globFits (m : Mem) (j : Nat) : Bool := listFitsM m.Heap (m.Lists.Global.getD j ⟨[]⟩).Slots j
def ownFits (m : Mem) (j : Nat) : Bool := listFitsM m.Heap (m.Lists.Own.getD j ⟨[]⟩).Slots ((j % 3 : Nat) : Int)
def memOk (m : Mem) : Bool := heapOk m.Heap && listsOk m.Lists && (List.range 3).all (globFits m) && (List.range 9).all (ownFits m)
theorem fG {h : Heap} {s : Int} (hs : shapedM h = true) (hc : 0 <= classInM h s) : genOfM h s = genInM h s := by
 have : classAtM h s = classInM h s := by simp [classAtM, hs]
 rw [genOfM, this, if_neg (by omega)]
theorem ot {h : Heap} {s c : Int} (hs : shapedM h = true) (hc : 0 <= c) : (bif (classInM h s != c) then true else decide (6 < genOfM h s)) = !((classInM h s == c) && decide (genInM h s <= 6)) := by
 by_cases h1 : classInM h s = c
 ·rw [fG hs (by omega)]
  have e1 : (classInM h s == c) = true := by simp [h1]
  simp only [bne, e1, Bool.not_true, cond_false, Bool.true_and]
  by_cases h2 : genInM h s <= 6
  ·rw [decide_eq_true h2, decide_eq_false (by omega)]; rfl
  ·rw [decide_eq_false h2, decide_eq_true (by omega)]; rfl
 ·have e1 : (classInM h s == c) = false := by simp [h1]
  simp only [bne, e1, Bool.not_false, cond_true, Bool.false_and]
theorem ou {h : Heap} {s c : Int} : (bif (classInM h s != c) then true else decide (6 < genInM h s)) = !((classInM h s == c) && decide (genInM h s <= 6)) := by
 by_cases h1 : classInM h s = c
 ·have e1 : (classInM h s == c) = true := by simp [h1]
  simp only [bne, e1, Bool.not_true, cond_false, Bool.true_and]
  by_cases h2 : genInM h s <= 6
  ·rw [decide_eq_true h2, decide_eq_false (by omega)]; rfl
  ·rw [decide_eq_false h2, decide_eq_true (by omega)]; rfl
 ·have e1 : (classInM h s == c) = false := by simp [h1]
  simp only [bne, e1, Bool.not_false, cond_true, Bool.false_and]
theorem bW {m : Mem} (h : memOk m = true) : heapOk m.Heap = true /\ listsOk m.Lists = true /\ shapedM m.Heap = true := by
 simp only [memOk, Bool.and_eq_true] at h
 exact ⟨h.1.1.1, h.1.1.2, ci h.1.1.1⟩
theorem kp {m : Mem} (h : heapOk m.Heap = false \/ listsOk m.Lists = false) : memOk m = false := by
 rcases h with h | h <;> simp [memOk, h]
theorem kq {m : Mem} {j : Nat} (hj : j < 3) (h : globFits m j = false) : memOk m = false := by
 have : (List.range 3).all (globFits m) = false := by
  rw [Bool.eq_false_iff]; intro ha
  rw [List.all_eq_true.1 ha j (List.mem_range.2 hj)] at h; cases h
 simp [memOk, this]
theorem kr {m : Mem} {j : Nat} (hj : j < 9) (h : ownFits m j = false) : memOk m = false := by
 have : (List.range 9).all (ownFits m) = false := by
  rw [Bool.eq_false_iff]; intro ha
  rw [List.all_eq_true.1 ha j (List.mem_range.2 hj)] at h; cases h
 simp [memOk, this]
theorem kt {m : Mem} (h1 : heapOk m.Heap = true) (h2 : listsOk m.Lists = true) (hg : ∀ j, j < 3 -> globFits m j = true) (ho : ∀ j, j < 9 -> ownFits m j = true) : memOk m = true := by
 simp only [memOk, h1, h2, Bool.true_and, Bool.and_eq_true, List.all_eq_true, List.mem_range]
 exact ⟨hg, ho⟩
theorem fq {l : Lists} (h : listsOk l = true) : l.Global.length = 3 /\ l.Own.length = 9 := by
 simp only [listsOk, Bool.and_eq_true, decide_eq_true_eq] at h
 omega
theorem c303 (h : Heap) (hz : sizHeap h <= 1048576) (hs : shapedM h = true) (x : SList) (hl : x.Slots.length <= maxLen) (c : Int) (hc : 0 <= c) : Ctr prog 303 [.agg ((encHeap h).map .dat), .agg ((encSList x).map .dat), .one (.dat (.int .i64 c))] [] (.one (.dat (.bool (listFitsM h x.Slots c)))) [] := by
 have hcc := fun s => c265 h (aF hs).2.2.1 s
 have hcg := fun s => c312 h hz s
 simp only [encHeap, encSList, List.map_cons, List.map_nil] at hcc hcg ⊢
 refine Ctr.bd aa func303 rfl ?_
 refine evl ?_
 refine scs ?_
 refine ab (fun zn zs => ∃ i : Nat, i <= x.Slots.length /\ zn = x.Slots.length - i /\ (listFitsM h x.Slots c = listFitsM h (x.Slots.drop i) c) /\ zs = mkSt [(12, .one (.dat (.int .i64 i))), (11, .one (.dat (.int .i64 (x.Slots.length)))), (10, .one (.dat (.sl 1 (x.Slots.map encI)))), (3, .one (.ptr (.own 0 0 0))), (4, .one (.ptr (.own 1 0 0))), (2, .one (.dat (.int .i64 c)))] [.box [.dat (.sl 1 (h.Bytes.map encI)), .dat (.sl 1 (h.Class.map encI))], .box [.dat (.sl 1 (x.Slots.map encI))]]) (x.Slots.length) _
  (Ent.wk [0, 1]) ⟨0, by omega, by omega, rfl, rfl⟩ ?_
 rintro zn zs ⟨i, hi, rfl, hinv, rfl⟩ K hK
 rcases Nat.lt_or_ge i (x.Slots.length) with hlt | hge
 ·have hdi : decide ((i : Int) < ((x.Slots.length : Nat) : Int)) = true := decide_eq_true (by omega)
  have hw := ah hlt hl
  have hst : listFitsM h (x.Slots.drop i) c = (((classInM h x.Slots[i] == c) && decide (genInM h x.Slots[i] <= 6)) && listFitsM h (x.Slots.drop (i + 1)) c) := by
   simp only [listFitsM]; rw [List.drop_eq_getElem_cons hlt, List.all_cons]
  have hfi := ot (s := x.Slots[i]) hs hc
  refine sv13 ?_
  refine scs ?_
  refine ck e265 (hcc x.Slots[i]) rfl ?_
  refine sv13 ?_
  refine scs ?_
  refine ck e312 (hcg x.Slots[i]) rfl ?_
  simp (maxSteps := 2000000) only [go_sem, seval, hdi, hw, getD_map hlt, encI, hfi]
  refine scs ?_
  constructor <;> intro hq
  ·apply hK
   refine sv13 ?_
   refine Fin.nt results303 [] ?_ ?_ ?_ <;> try trivial
   (refine rsl ?_; try exact .intro)
   rw [hinv, hst, bw hq, Bool.false_and]
  ·have hq' := bx hq
   (apply hK
    exact ⟨x.Slots.length - (i + 1), _, by omega, Ent.wk [0, 1], i + 1, by omega, rfl, by rw [hinv, hst, hq', Bool.true_and], rfl⟩)
 ·have hge' : x.Slots.length = i := by omega
  subst hge'
  have hdi : decide (((x.Slots.length : Nat) : Int) < ((x.Slots.length : Nat) : Int)) = false := by simp
  have hre : listFitsM h x.Slots c = true := by rw [hinv, List.drop_length]; rfl
  clear hinv
  refine sv3 ?_
  apply hK
  refine evl ?_
  refine Fin.nt results303 [] ?_ ?_ ?_ <;> try trivial
  (refine rsl ?_; try exact .intro)
  exact hre.symm
theorem c287 (h : Heap) (hs : shapedM h = true) (l : List Int) (hl : l.length <= maxLen) (c : Int) (hc : 0 <= c) : Ctr prog 287 [.agg ((encHeap h).map .dat), .one (.dat (.sl 1 (l.map encI))), .one (.dat (.int .i64 c))] [] (.one (.dat (.bool (listFitsM h l c)))) [] := by
 have hcc := fun s => c258 h (aF hs).2.2.1 s
 have hcg := fun s hc => c256 h hs s hc
 simp only [encHeap, List.map_cons, List.map_nil] at hcc hcg ⊢
 refine Ctr.bd aa func287 rfl ?_
 refine evl ?_
 refine scs ?_
 refine ab (fun zn zs => ∃ i : Nat, i <= l.length /\ zn = l.length - i /\ (listFitsM h l c = listFitsM h (l.drop i) c) /\ zs = mkSt [(7, .one (.dat (.int .i64 i))), (3, .one (.ptr (.own 0 0 0))), (1, .one (.dat (.sl 1 (l.map encI)))), (2, .one (.dat (.int .i64 c)))] [.box [.dat (.sl 1 (h.Bytes.map encI)), .dat (.sl 1 (h.Class.map encI))]]) (l.length) _
  (Ent.wk [0]) ⟨0, by omega, by omega, rfl, rfl⟩ ?_
 rintro zn zs ⟨i, hi, rfl, hinv, rfl⟩ K hK
 rcases Nat.lt_or_ge i (l.length) with hlt | hge
 ·have hdi : decide ((i : Int) < ((l.length : Nat) : Int)) = true := decide_eq_true (by omega)
  have hw := ah hlt hl
  have hst : listFitsM h (l.drop i) c = (((classInM h l[i] == c) && decide (genInM h l[i] <= 6)) && listFitsM h (l.drop (i + 1)) c) := by
   simp only [listFitsM]; rw [List.drop_eq_getElem_cons hlt, List.all_cons]
  have hfi := ou (h := h) (s := l[i]) (c := c)
  refine sv13 ?_
  refine scs ?_
  first | refine af e258 (hcc l[i]) rfl rfl ?_ | refine ag e258 (hcc l[i]) rfl rfl ?_
  refine sv13 ?_
  refine scs ?_
  first | refine aj e256 (fun hg => ⟨by first | exact trivial | exact hg | exact ⟨hg, hg⟩ | (simp; done) | (simp_all only [Bool.not_false, Bool.not_true, and_self]; done), hcg l[i] (by have := hg; simp at this; omega)⟩) rfl rfl ?_ | refine Or.inl (aj e256 (fun hg => ⟨by first | exact trivial | exact hg | exact ⟨hg, hg⟩ | (simp; done) | (simp_all only [Bool.not_false, Bool.not_true, and_self]; done), hcg l[i] (by have := hg; simp at this; omega)⟩) rfl rfl ?_)
  simp (maxSteps := 2000000) only [go_sem, seval, hdi, hw, getD_map hlt, encI, hfi]
  refine scs ?_
  constructor <;> intro hq
  ·apply hK
   refine sv13 ?_
   refine Fin.nt results287 [] ?_ ?_ ?_ <;> try trivial
   (refine rsl ?_; try exact .intro)
   rw [hinv, hst, bw hq, Bool.false_and]
  ·have hq' := bx hq
   (apply hK
    exact ⟨l.length - (i + 1), _, by omega, Ent.wk [0], i + 1, by omega, rfl, by rw [hinv, hst, hq', Bool.true_and], rfl⟩)
 ·have hge' : l.length = i := by omega
  subst hge'
  have hdi : decide (((l.length : Nat) : Int) < ((l.length : Nat) : Int)) = false := by simp
  have hre : listFitsM h l c = true := by rw [hinv, List.drop_length]; rfl
  clear hinv
  refine sv3 ?_
  apply hK
  refine evl ?_
  refine Fin.nt results287 [] ?_ ?_ ?_ <;> try trivial
  (refine rsl ?_; try exact .intro)
  exact hre.symm
theorem c236 (m : Mem) (hz : sizMem m <= 1048576) : Ctr prog 236 [.agg ((encMem m).map .dat)] [] (.one (.dat (.bool (memOk m)))) [] := by
 have hmx : maxLen = 9223372036854775807 := rfl
 unfold sizMem at hz
 have hlk := Lists.lok_of (x := m.Lists) (by omega)
 obtain ⟨hl1, hq1, hl2, hq2, _⟩ := hlk
 have hch := c301 m.Heap (by omega)
 have hcl := c302 m.Lists (by omega)
 have hcf := fun hs x hl c hc => c303 m.Heap (by omega) hs x hl c hc
 simp only [encHeap, encLists, encSList, List.map_cons, List.map_nil] at hch hcl hcf
 simp only [encMem, List.map_cons, List.map_nil]
 refine Ctr.bd aa func236 rfl ?_
 refine evl ?_
 refine scs ?_
 refine ck e301 (hch) rfl ?_
 refine evl ?_
 refine scs ?_
 refine ck e302 (hcl) rfl ?_
 refine evl ?_
 refine scs ?_
 constructor <;> intro hq
 ·refine Fin.nt results236 [] ?_ ?_ ?_ <;> try trivial
  (refine rsl ?_; try exact .intro)
  refine (kp ?_).symm
  cases h1 : heapOk m.Heap with
  | false => exact .inl rfl
  | true => exact .inr (by simpa [h1] using hq)
 have h1 : heapOk m.Heap = true := by
  cases h1 : heapOk m.Heap with
  | true => rfl
  | false => simp [h1] at hq
 have h2 : listsOk m.Lists = true := by simpa [h1] using hq
 have hs := ci h1
 obtain ⟨h3, h9⟩ := fq h2
 clear hq hch hcl
 refine ab (fun zn zs => ∃ i : Nat, i <= m.Lists.Global.length /\ zn = m.Lists.Global.length - i /\ (∀ j, j < i -> globFits m j = true) /\ zs = mkSt [(21, .one (.dat (.int .i64 i))), (20, .one (.dat (.int .i64 (m.Lists.Global.length)))), (19, .one (.dat (.sl 1 (m.Lists.Global.map encSList)))), (1, .one (.ptr (.own 0 0 0)))] [.box [.dat (.sl 1 (m.Heap.Bytes.map encI)), .dat (.sl 1 (m.Heap.Class.map encI)), .dat (.sl 1 (m.Lists.Global.map encSList)), .dat (.sl 1 (m.Lists.Own.map encSList))]]) (m.Lists.Global.length) _
  (Ent.wk [0]) ⟨0, by omega, by omega, fun j hj => absurd hj (Nat.not_lt_zero j), rfl⟩ ?_
 rintro zn zs ⟨i, hi, rfl, hinv, rfl⟩ K hK
 rcases Nat.lt_or_ge i (m.Lists.Global.length) with hlt | hge
 ·have hdi : decide ((i : Int) < ((m.Lists.Global.length : Nat) : Int)) = true := decide_eq_true (by omega)
  have hw := ah hlt hl1
  have hgf : globFits m i = listFitsM m.Heap m.Lists.Global[i].Slots (i : Int) := by
   rw [globFits, List.getD_eq_getElem?_getD, List.getElem?_eq_getElem hlt, Option.getD_some]
  refine sv23 ?_
  refine scs ?_
  refine ck e303 (hcf hs m.Lists.Global[i] (hq1 _ (List.getElem_mem hlt)).1 (i : Int) (by omega)) rfl ?_
  refine sv23 ?_
  rw [<- hgf]
  constructor <;> intro hq
  ·apply hK
   refine sv23 ?_
   refine Fin.nt results236 [] ?_ ?_ ?_ <;> try trivial
   (refine rsl ?_; try exact .intro)
   exact (kq (by omega) (bw hq)).symm
  ·have hq' := bx hq
   (apply hK
    exact ⟨m.Lists.Global.length - (i + 1), _, by omega, Ent.wk [0], i + 1, by omega, rfl, (fun j hj => by rcases Nat.lt_succ_iff_lt_or_eq.1 hj with hj | rfl; exact hinv j hj; exact hq'), rfl⟩)
 ·have hge' : m.Lists.Global.length = i := by omega
  subst hge'
  have hdi : decide (((m.Lists.Global.length : Nat) : Int) < ((m.Lists.Global.length : Nat) : Int)) = false := by simp
  have hglob : ∀ j, j < 3 -> globFits m j = true := fun j hj => hinv j (by omega)
  clear hinv
  refine sv3 ?_
  apply hK
  refine evl ?_
  refine ab (fun zn zs => ∃ i : Nat, i <= m.Lists.Own.length /\ zn = m.Lists.Own.length - i /\ (∀ j, j < i -> ownFits m j = true) /\ zs = mkSt [(37, .one (.dat (.int .i64 i))), (36, .one (.dat (.int .i64 (m.Lists.Own.length)))), (35, .one (.dat (.sl 1 (m.Lists.Own.map encSList)))), (1, .one (.ptr (.own 0 0 0)))] [.box [.dat (.sl 1 (m.Heap.Bytes.map encI)), .dat (.sl 1 (m.Heap.Class.map encI)), .dat (.sl 1 (m.Lists.Global.map encSList)), .dat (.sl 1 (m.Lists.Own.map encSList))]]) (m.Lists.Own.length) _
   (Ent.wk [0]) ⟨0, by omega, by omega, fun j hj => absurd hj (Nat.not_lt_zero j), rfl⟩ ?_
  rintro zn zs ⟨i, hi, rfl, hinv, rfl⟩ K hK
  rcases Nat.lt_or_ge i (m.Lists.Own.length) with hlt | hge
  ·have hdi : decide ((i : Int) < ((m.Lists.Own.length : Nat) : Int)) = true := decide_eq_true (by omega)
   have hw := ah hlt hl2
   have hof : ownFits m i = listFitsM m.Heap m.Lists.Own[i].Slots ((i % 3 : Nat) : Int) := by
    rw [ownFits, List.getD_eq_getElem?_getD, List.getElem?_eq_getElem hlt, Option.getD_some]
   have hm3 : Int.tmod (i : Int) 3 = ((i % 3 : Nat) : Int) := by rw [Int.tmod_eq_emod_of_nonneg (by omega)]; omega
   simp (maxSteps := 2000000) only [go_sem, seval, hdi, hw, getD_map hlt, encSList, hm3]
   refine scs ?_
   refine ck e303 (hcf hs m.Lists.Own[i] (hq2 _ (List.getElem_mem hlt)).1 ((i % 3 : Nat) : Int) (by omega)) rfl ?_
   refine sv23 ?_
   rw [<- hof]
   constructor <;> intro hq
   ·apply hK
    refine sv23 ?_
    refine Fin.nt results236 [] ?_ ?_ ?_ <;> try trivial
    (refine rsl ?_; try exact .intro)
    exact (kr (by omega) (bw hq)).symm
   ·have hq' := bx hq
    (apply hK
     exact ⟨m.Lists.Own.length - (i + 1), _, by omega, Ent.wk [0], i + 1, by omega, rfl, (fun j hj => by rcases Nat.lt_succ_iff_lt_or_eq.1 hj with hj | rfl; exact hinv j hj; exact hq'), rfl⟩)
  ·have hge' : m.Lists.Own.length = i := by omega
   subst hge'
   have hdi : decide (((m.Lists.Own.length : Nat) : Int) < ((m.Lists.Own.length : Nat) : Int)) = false := by simp
   have hown : ∀ j, j < 9 -> ownFits m j = true := fun j hj => hinv j (by omega)
   clear hinv
   refine sv3 ?_
   apply hK
   refine evl ?_
   refine Fin.nt results236 [] ?_ ?_ ?_ <;> try trivial
   (refine rsl ?_; try exact .intro)
   exact (kt h1 h2 hglob hown).symm
theorem c210 (m : Mem) (hz : sizMem m <= 1048576) : Ctr prog 210 [.agg ((encMem m).map .dat)] [] (.one (.dat (.bool (memOk m)))) [] := by
 have hmx : maxLen = 9223372036854775807 := rfl
 unfold sizMem at hz
 have hlk := Lists.lok_of (x := m.Lists) (by omega)
 obtain ⟨hl1, hq1, hl2, hq2, _⟩ := hlk
 have hch := c285 m.Heap (by omega)
 have hcl := c286 m.Lists (by omega)
 have hcf := fun hs l hl c hc => c287 m.Heap hs l hl c hc
 simp only [encHeap, encLists, encSList, List.map_cons, List.map_nil] at hch hcl hcf
 simp only [encMem, List.map_cons, List.map_nil]
 refine Ctr.bd aa func210 rfl ?_
 refine evl ?_
 refine scs ?_
 refine ck e285 (hch) rfl ?_
 refine evl ?_
 refine scs ?_
 refine ck e286 (hcl) rfl ?_
 refine evl ?_
 refine scs ?_
 constructor <;> intro hq
 ·refine Fin.nt results210 [] ?_ ?_ ?_ <;> try trivial
  (refine rsl ?_; try exact .intro)
  refine (kp ?_).symm
  cases h1 : heapOk m.Heap with
  | false => exact .inl rfl
  | true => exact .inr (by simpa [h1] using hq)
 have h1 : heapOk m.Heap = true := by
  cases h1 : heapOk m.Heap with
  | true => rfl
  | false => simp [h1] at hq
 have h2 : listsOk m.Lists = true := by simpa [h1] using hq
 have hs := ci h1
 obtain ⟨h3, h9⟩ := fq h2
 clear hq hch hcl
 refine ab (fun zn zs => ∃ i : Nat, i <= 3 /\ zn = 3 - i /\ (∀ j, j < i -> globFits m j = true /\ ∀ w, w < 3 -> ownFits m (w * 3 + j) = true) /\ zs = mkSt [(3, .one (.dat (.int .i64 i))), (1, .one (.ptr (.own 0 0 0)))] [.box [.dat (.sl 1 (m.Heap.Bytes.map encI)), .dat (.sl 1 (m.Heap.Class.map encI)), .dat (.sl 1 (m.Lists.Global.map encSList)), .dat (.sl 1 (m.Lists.Own.map encSList))]]) (3) _
  (Ent.wk [0]) ⟨0, by omega, by omega, fun j hj => absurd hj (Nat.not_lt_zero j), rfl⟩ ?_
 rintro zn zs ⟨i, hi, rfl, hinv, rfl⟩ K hK
 rcases Nat.lt_or_ge i (3) with hlt | hge
 ·have hdi : decide ((i : Int) < ((3 : Nat) : Int)) = true := decide_eq_true (by omega)
  have hw := ah hlt (show 3 <= maxLen by decide)
  have hd3 : decide ((i : Int) < 3) = true := decide_eq_true (by omega)
  have hgi : i < m.Lists.Global.length := by omega
  have hgf : globFits m i = listFitsM m.Heap m.Lists.Global[i].Slots (i : Int) := by
   rw [globFits, List.getD_eq_getElem?_getD, List.getElem?_eq_getElem hgi, Option.getD_some]
  refine sv31 ?_
  refine scs ?_
  first | refine af e287 (hcf hs m.Lists.Global[i].Slots (hq1 _ (List.getElem_mem hgi)).1 (i : Int) (by omega)) rfl rfl ?_ | refine ag e287 (hcf hs m.Lists.Global[i].Slots (hq1 _ (List.getElem_mem hgi)).1 (i : Int) (by omega)) rfl rfl ?_
  refine sv31 ?_
  rw [<- hgf]
  constructor <;> intro hq
  ·apply hK
   refine sv31 ?_
   refine Fin.nt results210 [] ?_ ?_ ?_ <;> try trivial
   (refine rsl ?_; try exact .intro)
   exact (kq (by omega) (bw hq)).symm
  have hq' := bx hq
  clear hq
  refine ab (fun zn zs => ∃ w : Nat, w <= 3 /\ zn = 3 - w /\ (∀ j, j < w -> ownFits m (j * 3 + i) = true) /\ zs = mkSt [(4, .one (.dat (.int .i64 w))), (1, .one (.ptr (.own 0 0 0))), (3, .one (.dat (.int .i64 i)))] [.box [.dat (.sl 1 (m.Heap.Bytes.map encI)), .dat (.sl 1 (m.Heap.Class.map encI)), .dat (.sl 1 (m.Lists.Global.map encSList)), .dat (.sl 1 (m.Lists.Own.map encSList))]]) (3) _
   (Ent.wk [0]) ⟨0, by omega, by omega, fun j hj => absurd hj (Nat.not_lt_zero j), rfl⟩ ?_
  rintro zn zs ⟨w, hi2, rfl, hinv2, rfl⟩ K2 hK2
  rcases Nat.lt_or_ge w (3) with hlt2 | hge2
  ·have hdi2 : decide ((w : Int) < ((3 : Nat) : Int)) = true := decide_eq_true (by omega)
   have hw2 := ah hlt2 (show 3 <= maxLen by decide)
   have hd4 : decide ((w : Int) < 3) = true := decide_eq_true (by omega)
   have hoi : w * 3 + i < m.Lists.Own.length := by omega
   have hof : ownFits m (w * 3 + i) = listFitsM m.Heap m.Lists.Own[w * 3 + i].Slots (i : Int) := by
    rw [ownFits, List.getD_eq_getElem?_getD, List.getElem?_eq_getElem hoi, Option.getD_some]
    congr 1; omega
   have hti : ((w : Int) * 3 + (i : Int)).toNat = w * 3 + i := by omega
   refine sv32 ?_
   refine scs ?_
   first | refine af e288 (c288 (w : Int) (i : Int) (by omega) (by omega)) rfl rfl ?_ | refine ag e288 (c288 (w : Int) (i : Int) (by omega) (by omega)) rfl rfl ?_
   refine sv32 ?_
   refine scs ?_
   first | refine af e287 (hcf hs m.Lists.Own[w * 3 + i].Slots (hq2 _ (List.getElem_mem hoi)).1 (i : Int) (by omega)) rfl rfl ?_ | refine ag e287 (hcf hs m.Lists.Own[w * 3 + i].Slots (hq2 _ (List.getElem_mem hoi)).1 (i : Int) (by omega)) rfl rfl ?_
   refine sv32 ?_
   rw [<- hof]
   constructor <;> intro hq
   ·apply hK2
    refine sv32 ?_
    apply hK
    refine sv32 ?_
    refine Fin.nt results210 [] ?_ ?_ ?_ <;> try trivial
    (refine rsl ?_; try exact .intro)
    exact (kr (by omega) (bw hq)).symm
   ·have hq2' := bx hq
    (apply hK2
     exact ⟨3 - (w + 1), _, by omega, Ent.wk [0], w + 1, by omega, rfl, (fun j hj => by rcases Nat.lt_succ_iff_lt_or_eq.1 hj with hj | rfl; exact hinv2 j hj; exact hq2'), rfl⟩)
  ·have hge2' : 3 = w := by omega
   subst hge2'
   have hdi2 : decide (((3 : Nat) : Int) < ((3 : Nat) : Int)) = false := by simp
   have hd4 : decide (((3 : Nat) : Int) < 3) = false := rfl
   simp (maxSteps := 2000000) only [go_sem, seval, hd4]
   apply hK2
   refine sv2 ?_
   have hnx : ∀ j, j < i + 1 -> globFits m j = true /\ ∀ w, w < 3 -> ownFits m (w * 3 + j) = true := fun j hj => by
    rcases Nat.lt_succ_iff_lt_or_eq.1 hj with hj | rfl
    ·exact hinv j hj
    ·exact ⟨hq', hinv2⟩
   (apply hK
    exact ⟨3 - (i + 1), _, by omega, Ent.wk [0], i + 1, by omega, rfl, hnx, rfl⟩)
 ·have hge' : 3 = i := by omega
  subst hge'
  have hdi : decide (((3 : Nat) : Int) < ((3 : Nat) : Int)) = false := by simp
  have hd3 : decide (((3 : Nat) : Int) < 3) = false := rfl
  have hown : ∀ j, j < 9 -> ownFits m j = true := fun j hj => by
   have := (hinv (j % 3) (by omega)).2 (j / 3) (by omega)
   rwa [show j / 3 * 3 + j % 3 = j by omega] at this
  have hglob : ∀ j, j < 3 -> globFits m j = true := fun j hj => (hinv j hj).1
  clear hinv
  refine sv33 ?_
  apply hK
  refine evl ?_
  refine Fin.nt results210 [] ?_ ?_ ?_ <;> try trivial
  (refine rsl ?_; try exact .intro)
  exact (kt h1 h2 hglob hown).symm
theorem c311 (m : Mem) (hz : sizMem m <= 1048576) (hs : shapedM m.Heap = true) (s : Int) : Ctr prog 311 [.agg ((encMem m).map .dat), .one (.dat (.int .i64 s))] [] (.one (.dat (.int .i64 (stateM m s)))) [] := by
 unfold sizMem at hz
 have hcc := c265 m.Heap (aF hs).2.2.1 s
 have hcl := c348 m.Lists (by omega) s
 have hcg := c312 m.Heap (by omega) s
 simp only [encHeap, encLists, List.map_cons, List.map_nil] at hcc hcl hcg
 simp only [encMem, List.map_cons, List.map_nil]
 refine Ctr.bd aa func311 rfl ?_
 refine evl ?_
 refine scs ?_
 refine ck e265 (hcc) rfl ?_
 refine evl ?_
 constructor <;> intro hq
 ·refine Fin.nt results311 [] ?_ ?_ ?_ <;> try trivial
  (refine rsl ?_; try exact .intro)
  rw [stateM, if_pos (of_decide_eq_true hq)]
 have hc0 := of_decide_eq_false hq
 refine scs ?_
 refine ck e348 (hcl) rfl ?_
 refine evl ?_
 constructor <;> intro hq2
 ·refine Fin.nt results311 [] ?_ ?_ ?_ <;> try trivial
  (refine rsl ?_; try exact .intro)
  rw [stateM, if_neg hc0, if_pos hq2]
 have hg : genOfM m.Heap s = genInM m.Heap s := fG hs (by omega)
 have hl0 : ¬ onListM m.Lists s = true := by rw [hq2]; exact Bool.false_ne_true
 refine scs ?_
 refine ck e312 (hcg) rfl ?_
 refine evl ?_
 rw [hg]
 constructor <;> intro hq3
 ·refine Fin.nt results311 [] ?_ ?_ ?_ <;> try trivial
  (refine rsl ?_; try exact .intro)
  rw [stateM, if_neg hc0, if_neg hl0, if_pos (of_decide_eq_true hq3)]
 ·refine Fin.nt results311 [] ?_ ?_ ?_ <;> try trivial
  (refine rsl ?_; try exact .intro)
  rw [stateM, if_neg hc0, if_neg hl0, if_neg (of_decide_eq_false hq3)]
theorem c254 (m : Mem) (hz : sizMem m <= 1048576) (hs : shapedM m.Heap = true) (s : Int) : Ctr prog 254 [.agg ((encMem m).map .dat), .one (.dat (.int .i64 s))] [] (.one (.dat (.int .i64 (stateM m s)))) [] := by
 unfold sizMem at hz
 have hcc := c258 m.Heap (aF hs).2.2.1 s
 have hcl := c319 m.Lists (by omega) s
 have hcg := fun hc => c256 m.Heap hs s hc
 simp only [encHeap, encLists, List.map_cons, List.map_nil] at hcc hcl hcg
 simp only [encMem, List.map_cons, List.map_nil]
 refine Ctr.bd aa func254 rfl ?_
 refine evl ?_
 refine scs ?_
 refine ck e258 (hcc) rfl ?_
 refine evl ?_
 constructor <;> intro hq
 ·refine Fin.nt results254 [] ?_ ?_ ?_ <;> try trivial
  (refine rsl ?_; try exact .intro)
  rw [stateM, if_pos (of_decide_eq_true hq)]
 have hc0 := of_decide_eq_false hq
 refine scs ?_
 refine ck e319 (hcl) rfl ?_
 refine evl ?_
 constructor <;> intro hq2
 ·refine Fin.nt results254 [] ?_ ?_ ?_ <;> try trivial
  (refine rsl ?_; try exact .intro)
  rw [stateM, if_neg hc0, if_pos hq2]
 have hl0 : ¬ onListM m.Lists s = true := by rw [hq2]; exact Bool.false_ne_true
 refine scs ?_
 refine ck e256 (hcg (by omega)) rfl ?_
 refine evl ?_
 constructor <;> intro hq3
 ·refine Fin.nt results254 [] ?_ ?_ ?_ <;> try trivial
  (refine rsl ?_; try exact .intro)
  rw [stateM, if_neg hc0, if_neg hl0, if_pos (of_decide_eq_true hq3)]
 ·refine Fin.nt results254 [] ?_ ?_ ?_ <;> try trivial
  (refine rsl ?_; try exact .intro)
  rw [stateM, if_neg hc0, if_neg hl0, if_neg (of_decide_eq_false hq3)]
theorem bX {m : Mem} {s : Int} (h : stateM m s = 3) : 0 <= classInM m.Heap s := by
 unfold stateM at h
 split at h
 ·omega
 ·omega
theorem cv {h : Int} (hh : handleOk h = true) : h.tmod 32 = h % 32 /\ h.tdiv 32 = h / 32 /\ IntKind.i64.wrap (h / 32) = h / 32 := by
 have hb := (bA h).1 hh
 exact ⟨Int.tmod_eq_emod_of_nonneg (by omega), Int.tdiv_eq_ediv_of_nonneg (by omega), wrap_id (by omega) (by omega)⟩
theorem c244 (m : Mem) (hz : sizMem m <= 1048576) (hs : shapedM m.Heap = true) (h : Int) : Ctr prog 244 [.agg ((encMem m).map .dat), .one (.dat (.int .i64 h))] [] (.one (.dat (.bool (isLiveM m h)))) [] := by
 have hcs := fun s => c311 m hz hs s
 unfold sizMem at hz
 have hcg := fun s => c312 m.Heap (by omega) s
 simp only [encHeap, List.map_cons, List.map_nil] at hcg
 simp only [encMem, List.map_cons, List.map_nil] at hcs ⊢
 cases hh : handleOk h with
 | false =>
  refine Ctr.bd aa func244 rfl ?_
  refine evl ?_
  refine scs ?_
  refine ck e306 (c306 h) rfl ?_
  refine sv34 ?_
  refine scs ?_
  first | refine aM (.one (.dat (.int .i64 0))) ?_ | refine aN (.one (.dat (.int .i64 0))) ?_
  refine evl ?_
  refine scs ?_
  first | refine aM (.one (.dat (.int .i64 0))) ?_ | refine aN (.one (.dat (.int .i64 0))) ?_
  refine evl ?_
  refine scs ?_
  refine Fin.nt results244 [] ?_ ?_ ?_ <;> try trivial
  (refine rsl ?_; try exact .intro)
  simp only [isLiveM, hh, Bool.false_and]
 | true =>
  obtain ⟨ht, hd, hw⟩ := cv hh
  refine Ctr.bd aa func244 rfl ?_
  refine evl ?_
  refine scs ?_
  refine ck e306 (c306 h) rfl ?_
  refine sv35 ?_
  refine scs ?_
  refine ck e311 (hcs (h % 32)) rfl ?_
  refine sv35 ?_
  refine scs ?_
  refine ck e312 (hcg (h % 32)) rfl ?_
  refine sv35 ?_
  refine scs ?_
  refine Fin.nt results244 [] ?_ ?_ ?_ <;> try trivial
  (refine rsl ?_; try exact .intro)
  simp only [isLiveM, hh, Bool.true_and]
  by_cases h3 : stateM m (h % 32) = 3
  ·rw [fG hs (bX h3), h3]; rfl
  ·have : (stateM m (h % 32) == 3) = false := by simp [h3]
   rw [this]; rfl
theorem c153 (m : Mem) (hz : sizMem m <= 1048576) (hs : shapedM m.Heap = true) (h : Int) : Ctr prog 153 [.agg ((encMem m).map .dat), .one (.dat (.int .i64 h))] [] (.one (.dat (.bool (isLiveM m h)))) [] := by
 have hcs := fun s => c254 m hz hs s
 have hcg := fun s hc => c256 m.Heap hs s hc
 simp only [encHeap, List.map_cons, List.map_nil] at hcg
 simp only [encMem, List.map_cons, List.map_nil] at hcs ⊢
 cases hh : handleOk h with
 | false =>
  refine Ctr.bd aa func153 rfl ?_
  refine evl ?_
  refine scs ?_
  first | refine af e253 (c253 h) rfl rfl ?_ | refine ag e253 (c253 h) rfl rfl ?_
  refine sv34 ?_
  refine scs ?_
  first | refine aM (.one (.dat (.int .i64 0))) ?_ | refine aN (.one (.dat (.int .i64 0))) ?_
  refine evl ?_
  refine scs ?_
  first | refine aM (.one (.dat (.int .i64 0))) ?_ | refine aN (.one (.dat (.int .i64 0))) ?_
  refine evl ?_
  refine scs ?_
  first | refine aM (.one (.dat (.int .i64 0))) ?_ | refine aN (.one (.dat (.int .i64 0))) ?_
  refine evl ?_
  refine scs ?_
  first | refine aM (.one (.dat (.int .i64 0))) ?_ | refine aN (.one (.dat (.int .i64 0))) ?_
  refine evl ?_
  refine scs ?_
  first | refine aM (.one (.dat (.int .i64 0))) ?_ | refine aN (.one (.dat (.int .i64 0))) ?_
  refine evl ?_
  refine scs ?_
  refine Fin.nt results153 [] ?_ ?_ ?_ <;> try trivial
  (refine rsl ?_; try exact .intro)
  simp only [isLiveM, hh, Bool.false_and]
 | true =>
  have e1 : handleSlot h = h % 32 := by simp [handleSlot, hh]
  have e2 : handleGen h = h / 32 := by simp [handleGen, hh]
  refine Ctr.bd aa func153 rfl ?_
  refine evl ?_
  refine scs ?_
  first | refine af e253 (c253 h) rfl rfl ?_ | refine ag e253 (c253 h) rfl rfl ?_
  refine sv34 ?_
  refine scs ?_
  first | refine af e255 (c255 h) rfl rfl ?_ | refine ag e255 (c255 h) rfl rfl ?_
  refine sv36 ?_
  refine scs ?_
  first | refine af e254 (hcs (h % 32)) rfl rfl ?_ | refine ag e254 (hcs (h % 32)) rfl rfl ?_
  refine sv36 ?_
  refine scs ?_
  first | refine af e255 (c255 h) rfl rfl ?_ | refine ag e255 (c255 h) rfl rfl ?_
  refine sv36 ?_
  refine scs ?_
  first | refine aj e256 (fun hg => ⟨by first | exact trivial | exact hg | exact ⟨hg, hg⟩ | (simp; done) | (simp_all only [Bool.not_false, Bool.not_true, and_self]; done), hcg (h % 32) (bX (by have := hg; simpa using this))⟩) rfl rfl ?_ | refine Or.inl (aj e256 (fun hg => ⟨by first | exact trivial | exact hg | exact ⟨hg, hg⟩ | (simp; done) | (simp_all only [Bool.not_false, Bool.not_true, and_self]; done), hcg (h % 32) (bX (by have := hg; simpa using this))⟩) rfl rfl ?_)
  refine sv36 ?_
  refine scs ?_
  first | refine af e257 (c257 h) rfl rfl ?_ | refine ag e257 (c257 h) rfl rfl ?_
  simp (maxSteps := 2000000) only [go_sem, seval, hh, e2]
  refine scs ?_
  refine Fin.nt results153 [] ?_ ?_ ?_ <;> try trivial
  (refine rsl ?_; try exact .intro)
  simp only [isLiveM, hh, Bool.true_and]
  cases (stateM m (h % 32) == 3) <;> rfl
def hasNodeM (h : Heap) (s : Int) : Bool := decide (10 <= sizeOf (classInM h s))
def startM (h : Heap) (s : Int) : Int := startOf s (classInM h s)
def loadNode (b : List Int) (a : Nat) : Node := ⟨loadN b a 2, loadN b (a + 2) 4, loadN b (a + 6) 4⟩
def nodeInM (h : Heap) (s : Int) : Node := loadNode h.Bytes (startM h s).toNat
def spotM (m : Mem) (h : Int) : Int × Int :=
 if handleOk h = true /\ 0 <= classInM m.Heap (h % 32) then
  if hasNodeM m.Heap (h % 32) = true then (startM m.Heap (h % 32), 0) else (0, 2)
 else (0, 4)
theorem dd {h : Heap} {s : Int} (hs : shapedM h = true) (hn : hasNodeM h s = true) : 0 <= classInM h s /\ 0 <= startM h s /\ startM h s + 10 <= 384 /\ startM h s = ((startM h s).toNat : Int) := by
 have h10 := of_decide_eq_true hn
 have hc : 0 <= classInM h s := by
  refine Classical.byContradiction fun hn => ?_
  have : sizeOf (classInM h s) = 0 := by
   rcases aO (classInM h s) with h1 | h1 | h1 | ⟨_, h1, _⟩
   ·omega
   ·omega
   ·omega
   ·exact h1
  omega
 have hb := b8 hs hc
 have hst : startM h s = genAt s (classInM h s) + 4 := by rw [startM, startOf, if_neg (by omega)]
 omega
theorem c324 (h : Heap) (hs : shapedM h = true) (s : Int) : Ctr prog 324 [.agg ((encHeap h).map .dat), .one (.dat (.int .i64 s))] [] (.one (.dat (.bool (hasNodeM h s)))) [] := by
 have hcc := c265 h (aF hs).2.2.1 s
 simp only [encHeap, List.map_cons, List.map_nil] at hcc ⊢
 refine Ctr.bd aa func324 rfl ?_
 refine evl ?_
 refine scs ?_
 refine ck e265 (hcc) rfl ?_
 refine evl ?_
 refine scs ?_
 refine ck e352 (c352 (classInM h s)) rfl ?_
 refine evl ?_
 refine Fin.nt results324 [] ?_ ?_ ?_ <;> try trivial
theorem c160 (h : Heap) (hs : shapedM h = true) (s : Int) : Ctr prog 160 [.agg ((encHeap h).map .dat), .one (.dat (.int .i64 s))] [] (.one (.dat (.int .i64 (startM h s)))) [] := by
 have hcc := c265 h (aF hs).2.2.1 s
 simp only [encHeap, List.map_cons, List.map_nil] at hcc ⊢
 refine Ctr.bd aa func160 rfl ?_
 refine evl ?_
 refine scs ?_
 refine ck e265 (hcc) rfl ?_
 refine evl ?_
 refine scs ?_
 refine ck e264 (c264 s (classInM h s)) rfl ?_
 refine evl ?_
 refine Fin.nt results160 [] ?_ ?_ ?_ <;> try trivial
theorem c70 (h : Heap) (hs : shapedM h = true) (s : Int) (hn : hasNodeM h s = true) : Ctr prog 70 [.agg ((encHeap h).map .dat), .one (.dat (.int .i64 s))] [] (.agg ((encNode (nodeInM h s)).map .dat)) [] := by
 have hcs := c160 h hs s
 obtain ⟨hc, h0, h1, _⟩ := dd hs hn
 obtain ⟨hlb, hbb, _⟩ := aF hs
 generalize hA : startM h s = A at hcs h0 h1
 have hnd : nodeInM h s = loadNode h.Bytes A.toNat := by rw [nodeInM, hA]
 have hw2 : IntKind.i64.wrap (A + 2) = A + 2 := wrap_id (by omega) (by omega)
 have hw6 : IntKind.i64.wrap (A + 6) = A + 6 := wrap_id (by omega) (by omega)
 have hcl := fun (k w : Nat) hw7 hkw => c161 h.Bytes (by omega) ((A.toNat + k : Nat) : Int) (A.toNat + k) rfl (w : Int) w rfl hw7 hkw hbb
 have hl0 := hcl 0 2 (by omega) (by omega)
 have hl2 := hcl 2 4 (by omega) (by omega)
 have hl6 := hcl 6 4 (by omega) (by omega)
 rw [show ((A.toNat + 0 : Nat) : Int) = A by omega] at hl0
 rw [show ((A.toNat + 2 : Nat) : Int) = A + 2 by omega] at hl2
 rw [show ((A.toNat + 6 : Nat) : Int) = A + 6 by omega] at hl6
 rw [hnd]
 simp only [encHeap, encNode, loadNode, List.map_cons, List.map_nil] at hcs ⊢
 refine Ctr.bd aa func70 rfl ?_
 refine evl ?_
 refine scs ?_
 refine ck e160 (hcs) rfl ?_
 refine sv37 ?_
 refine scs ?_
 first | refine af e161 (hl0) rfl rfl ?_ | refine ag e161 (hl0) rfl rfl ?_
 refine sv37 ?_
 refine scs ?_
 first | refine af e161 (hl2) rfl rfl ?_ | refine ag e161 (hl2) rfl rfl ?_
 refine sv37 ?_
 refine scs ?_
 first | refine af e161 (hl6) rfl rfl ?_ | refine ag e161 (hl6) rfl rfl ?_
 refine sv37 ?_
 repeat ((with_reducible show _ = true /\ _); refine ⟨by kernel_rfl, ?_⟩)
 refine Fin.nt results70 [] ?_ ?_ ?_ <;> try trivial
theorem c155 (m : Mem) (hs : shapedM m.Heap = true) (h : Int) : Ctr prog 155 [.agg ((encMem m).map .dat), .one (.dat (.int .i64 h))] [] (.tup [.one (.dat (.int .i64 (spotM m h).1)), .one (.dat (.int .i64 (spotM m h).2))]) [] := by
 have hcc := fun s => c258 m.Heap (aF hs).2.2.1 s
 simp only [encHeap, List.map_cons, List.map_nil] at hcc
 simp only [encMem, List.map_cons, List.map_nil]
 cases hh : handleOk h with
 | false =>
  have hr : spotM m h = (0, 4) := by simp [spotM, hh]
  rw [hr]
  refine Ctr.bd aa func155 rfl ?_
  refine evl ?_
  refine scs ?_
  first | refine af e253 (c253 h) rfl rfl ?_ | refine ag e253 (c253 h) rfl rfl ?_
  refine sv34 ?_
  refine scs ?_
  first | refine aM (.one (.dat (.int .i64 0))) ?_ | refine aN (.one (.dat (.int .i64 0))) ?_
  refine evl ?_
  refine scs ?_
  first | refine aM (.one (.dat (.int .i64 0))) ?_ | refine aN (.one (.dat (.int .i64 0))) ?_
  refine evl ?_
  refine scs ?_
  refine Fin.nt results155 [] ?_ ?_ ?_ <;> try trivial
 | true =>
  have e1 : handleSlot h = h % 32 := by simp [handleSlot, hh]
  cases hc : decide (classInM m.Heap (h % 32) < 0) with
  | true =>
   have hc' := of_decide_eq_true hc
   have hr : spotM m h = (0, 4) := by simp [spotM, hh, show ¬ 0 <= classInM m.Heap (h % 32) by omega]
   rw [hr]
   refine Ctr.bd aa func155 rfl ?_
   refine evl ?_
   refine scs ?_
   first | refine af e253 (c253 h) rfl rfl ?_ | refine ag e253 (c253 h) rfl rfl ?_
   refine sv34 ?_
   refine scs ?_
   first | refine af e255 (c255 h) rfl rfl ?_ | refine ag e255 (c255 h) rfl rfl ?_
   refine sv36 ?_
   refine scs ?_
   first | refine af e258 (hcc (h % 32)) rfl rfl ?_ | refine ag e258 (hcc (h % 32)) rfl rfl ?_
   refine sv38 ?_
   refine scs ?_
   refine Fin.nt results155 [] ?_ ?_ ?_ <;> try trivial
  | false =>
   have hc' := of_decide_eq_false hc
   cases hn : decide (sizeOf (classInM m.Heap (h % 32)) < 10) with
   | true =>
    have hn' := of_decide_eq_true hn
    have hr : spotM m h = (0, 2) := by simp [spotM, hh, show 0 <= classInM m.Heap (h % 32) by omega, hasNodeM, show ¬ 10 <= sizeOf (classInM m.Heap (h % 32)) by omega]
    rw [hr]
    refine Ctr.bd aa func155 rfl ?_
    refine evl ?_
    refine scs ?_
    first | refine af e253 (c253 h) rfl rfl ?_ | refine ag e253 (c253 h) rfl rfl ?_
    refine sv34 ?_
    refine scs ?_
    first | refine af e255 (c255 h) rfl rfl ?_ | refine ag e255 (c255 h) rfl rfl ?_
    refine sv36 ?_
    refine scs ?_
    first | refine af e258 (hcc (h % 32)) rfl rfl ?_ | refine ag e258 (hcc (h % 32)) rfl rfl ?_
    refine sv38 ?_
    refine scs ?_
    first | refine af e255 (c255 h) rfl rfl ?_ | refine ag e255 (c255 h) rfl rfl ?_
    refine sv36 ?_
    refine scs ?_
    first | refine af e258 (hcc (h % 32)) rfl rfl ?_ | refine ag e258 (hcc (h % 32)) rfl rfl ?_
    refine sv38 ?_
    refine scs ?_
    refine ck e259 (c259 (classInM m.Heap (h % 32))) rfl ?_
    refine sv39 ?_
    refine scs ?_
    refine Fin.nt results155 [] ?_ ?_ ?_ <;> try trivial
   | false =>
    have hn' := of_decide_eq_false hn
    have hr : spotM m h = (startOf (h % 32) (classInM m.Heap (h % 32)), 0) := by simp [spotM, hh, show 0 <= classInM m.Heap (h % 32) by omega, hasNodeM, show 10 <= sizeOf (classInM m.Heap (h % 32)) by omega, startM]
    rw [hr]
    refine Ctr.bd aa func155 rfl ?_
    refine evl ?_
    refine scs ?_
    first | refine af e253 (c253 h) rfl rfl ?_ | refine ag e253 (c253 h) rfl rfl ?_
    refine sv34 ?_
    refine scs ?_
    first | refine af e255 (c255 h) rfl rfl ?_ | refine ag e255 (c255 h) rfl rfl ?_
    refine sv36 ?_
    refine scs ?_
    first | refine af e258 (hcc (h % 32)) rfl rfl ?_ | refine ag e258 (hcc (h % 32)) rfl rfl ?_
    refine sv38 ?_
    refine scs ?_
    first | refine af e255 (c255 h) rfl rfl ?_ | refine ag e255 (c255 h) rfl rfl ?_
    refine sv36 ?_
    refine scs ?_
    first | refine af e258 (hcc (h % 32)) rfl rfl ?_ | refine ag e258 (hcc (h % 32)) rfl rfl ?_
    refine sv38 ?_
    refine scs ?_
    refine ck e259 (c259 (classInM m.Heap (h % 32))) rfl ?_
    refine sv39 ?_
    refine scs ?_
    refine ck e255 (c255 h) rfl ?_
    refine sv36 ?_
    refine scs ?_
    refine ck e260 (c260 (h % 32) (classInM m.Heap (h % 32))) rfl ?_
    refine evl ?_
    refine scs ?_
    refine Fin.nt results155 [] ?_ ?_ ?_ <;> try trivial
theorem c157 (m : Mem) (hs : shapedM m.Heap = true) (A : Int) (h0 : 0 <= A) (h1 : A + 10 <= 384) : Ctr prog 157 [.agg ((encMem m).map .dat), .one (.dat (.int .i64 A))] [] (.agg ((encNode (loadNode m.Heap.Bytes A.toNat)).map .dat)) [] := by
 obtain ⟨hlb, hbb, _⟩ := aF hs
 have hw2 : IntKind.i64.wrap (A + 2) = A + 2 := wrap_id (by omega) (by omega)
 have hw6 : IntKind.i64.wrap (A + 6) = A + 6 := wrap_id (by omega) (by omega)
 have hcl := fun (k w : Nat) hw7 hkw => c261 m.Heap.Bytes (by omega) ((A.toNat + k : Nat) : Int) (A.toNat + k) rfl (w : Int) w rfl hw7 hkw hbb
 have hl0 := hcl 0 2 (by omega) (by omega)
 have hl2 := hcl 2 4 (by omega) (by omega)
 have hl6 := hcl 6 4 (by omega) (by omega)
 rw [show ((A.toNat + 0 : Nat) : Int) = A by omega] at hl0
 rw [show ((A.toNat + 2 : Nat) : Int) = A + 2 by omega] at hl2
 rw [show ((A.toNat + 6 : Nat) : Int) = A + 6 by omega] at hl6
 simp only [encMem, encNode, loadNode, List.map_cons, List.map_nil]
 refine Ctr.bd aa func157 rfl ?_
 refine sv37 ?_
 refine scs ?_
 first | refine af e261 (hl0) rfl rfl ?_ | refine ag e261 (hl0) rfl rfl ?_
 refine sv37 ?_
 refine scs ?_
 first | refine af e261 (hl2) rfl rfl ?_ | refine ag e261 (hl2) rfl rfl ?_
 refine sv37 ?_
 refine scs ?_
 first | refine af e261 (hl6) rfl rfl ?_ | refine ag e261 (hl6) rfl rfl ?_
 refine sv37 ?_
 repeat ((with_reducible show _ = true /\ _); refine ⟨by kernel_rfl, ?_⟩)
 refine Fin.nt results157 [] ?_ ?_ ?_ <;> try trivial
end Go.Proofs.YtkmmgklnoagedaaGreat.Mod
