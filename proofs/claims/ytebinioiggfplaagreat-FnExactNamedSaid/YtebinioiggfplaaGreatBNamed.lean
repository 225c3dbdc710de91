/- FnExactNamed: the program answers as the statement says, at every argument. -/
import Derived.Test.YtebinioiggfplaaGreatRows
import Derived.Test.YtebinioiggfplaaGreatBTy
import Derived.Test.YtebinioiggfplaaGreatAbsTac
import Derived.Test.YtebinioiggfplaaGreatAbsData
import Derived.Test.YtebinioiggfplaaGreatWhole
import Derived.Test.YtebinioiggfplaaGreatBBase
import Derived.Test.YtebinioiggfplaaGreatBNum
import Derived.Test.YtebinioiggfplaaGreatBFam
import Derived.Test.YtebinioiggfplaaGreatBFam2
import Derived.Test.YtebinioiggfplaaGreatBSok
import Derived.Test.YtebinioiggfplaaGreatBFam3
import Derived.Test.YtebinioiggfplaaGreatBSl
import Derived.Test.YtebinioiggfplaaGreatBSl2
import Derived.Test.YtebinioiggfplaaGreatBHist
import Derived.Test.YtebinioiggfplaaGreatBHeap
import Derived.Test.YtebinioiggfplaaGreatBLists
import Derived.Test.YtebinioiggfplaaGreatBStore
import Derived.Test.YtebinioiggfplaaGreatBIdle
import Derived.Test.YtebinioiggfplaaGreatBValid
import Derived.Test.YtebinioiggfplaaGreatBSorts
import Derived.WalkKit
import Derived.ProofKit
import Derived.OpenShut
namespace Go.Proofs.YtebinioiggfplaaGreat.Mod
open Go.Proofs.Tryz Go.Abs Go.Proofs.YtebinioiggfplaaGreat.Ty Go.ChangeShapes Go.WideShapes Go.ChangeAt Go.RowKit
set_option linter.unusedSimpArgs false
set_option linter.unusedVariables false
set_option maxHeartbeats 8000000
set_option maxRecDepth 100000
def effPin (p : Pin) : Bool := p.On && !p.Marked
theorem c48 (p : Pin) : Ctr prog 48 [.agg ((encPin p).map .dat)] [] (.one (.dat (.bool (effPin p)))) [] := by
 simp only [encPin, List.map_cons, List.map_nil]
 refine Ctr.bd mixed func48 rfl ?_
 refine evl ?_
 refine scs ?_
 refine Fin.nt results48 [] ?_ ?_ ?_ <;> try trivial
 (refine rsl ?_; try exact .intro)
 simp only [effPin]
 cases p.On <;> rfl
def tGuards (j : TJob) (p : Pin) : Bool := j.Busy && (within j.Pc 3 4 && effPin p)
def gGo : List TJob -> List Pin -> List Int
 | j :: J, p :: Ps => if tGuards j p then j.H :: gGo J Ps else gGo J Ps
 | _, _ => []
theorem gGo_nil (Ps : List Pin) : gGo [] Ps = [] := by cases Ps <;> rfl
theorem gGo_len : ∀ (J : List TJob) (Ps : List Pin), (gGo J Ps).length <= J.length
 | [], _ => by simp [gGo]
 | j :: J, [] => by simp [gGo]
 | j :: J, p :: Ps => by
  have := gGo_len J Ps
  rw [gGo]
  split <;> simp <;> omega
def nz (l : List Int) : List Int := l.filter fun n => !(n == 0)
theorem nz_cons (x : Int) (l : List Int) : nz (x :: l) = if x = 0 then nz l else x :: nz l := by
 unfold nz
 by_cases h : x = 0 <;> simp [h]
theorem nz_app (a b : List Int) : nz (a ++ b) = nz a ++ nz b := by simp [nz]
theorem nz_len (l : List Int) : (nz l).length <= l.length := List.length_filter_le ..
def guardedM (t : Table) : List Int := bif tableOk t then gGo t.Jobs t.Base.Clock.Pins else []
def tguardedM (t : Table) : List Int := ascN (guardedM t)
theorem ascN_nz (l : List Int) : ascN l = putsN [] (nz l) := rfl
theorem clockOk_len {c : Clock} (h : clockOk c = true) : c.Pins.length = 3 := by
 simp only [clockOk, Bool.and_eq_true, decide_eq_true_eq] at h
 omega
theorem guardedM_len {t : Table} (h : tableOk t = true) : (guardedM t).length <= 3 := by
 obtain ⟨_, _, h3, _⟩ := tableOk_parts h
 have := gGo_len t.Jobs t.Base.Clock.Pins
 rw [guardedM, h]
 simp only [cond_true]
 omega
theorem tguardedM_len (t : Table) : (tguardedM t).length <= 3 := by
 have := ascN_len (guardedM t)
 unfold tguardedM
 cases h : tableOk t with
 | false =>
  have hg : guardedM t = [] := by rw [guardedM, h]; rfl
  rw [hg]; decide
 | true => have := guardedM_len h; omega
def celled (k : Int) : Bool := k == 1 || (k == 2 || (k == 3 || k == 7))
def opOk (o : Op) : Bool := within o.Kind 1 7 && ((bif celled o.Kind then within o.Cell 0 1 else o.Cell == 0) && (bif o.Kind == 1 then within o.Size 0 100 && within o.Val 0 65535 else o.Size == 0 && o.Val == 0))
def opsOk (q : Queue) : Bool := decide ((q.Ops.length : Int) <= 12) && q.Ops.all opOk
def todoOk (l : List Queue) : Bool := decide ((l.length : Int) = 3) && l.all opsOk
def jobOk (j : Job) : Bool := bif j.Busy then opOk j.Op && (isLink j.H && isLink j.Old) else decide (j = zeroJob)
def shelfOk (s : Shelf) : Bool := baseOk s.Base && (decide ((s.Cells.length : Int) = 2) && (decide ((s.Jobs.length : Int) = 3) && (todoOk s.Todo && (within s.Serial 0 1000000 && (s.Cells.all isLink && s.Jobs.all jobOk)))))
theorem todo_len {l : List Queue} (hz : sizQueueS l <= 1048576) : l.length <= 1048576 /\ ∀ q ∈ l, q.Ops.length <= 1048576 := by
 unfold sizQueueS at hz
 refine ⟨by omega, fun q hq => ?_⟩
 have h1 := sum_mem sizQueue hq
 have h2 : sizQueue q <= 1048576 := by omega
 unfold sizQueue at h2; omega
theorem shelf_len {s : Shelf} (hz : sizShelf s <= 1048576) : sizBase s.Base <= 1048576 /\ s.Cells.length <= 1048576 /\ s.Jobs.length <= 1048576 /\ sizQueueS s.Todo <= 1048576 := by
 unfold sizShelf at hz
 exact ⟨by omega, by omega, by omega, by omega⟩
theorem shelfOk_parts {s : Shelf} (h : shelfOk s = true) : baseOk s.Base = true /\ s.Cells.length = 2 /\ s.Jobs.length = 3 /\ (∀ j ∈ s.Jobs, jobOk j = true) /\ ∀ x ∈ s.Cells, isLink x = true := by
 simp only [shelfOk, Bool.and_eq_true, decide_eq_true_eq, List.all_eq_true] at h
 exact ⟨h.1, by omega, by omega, h.2.2.2.2.2.2, h.2.2.2.2.2.1⟩
def jobZ (j : Job) : Bool := (j.Op.Kind == 0 && (j.Op.Cell == 0 && (j.Op.Size == 0 && (j.Op.Val == 0 && (j.Serial == 0 && (j.Pc == 0 && (j.Sub.Kind == 0 && (j.Sub.A == 0 && (j.Sub.Pc == 0 && (j.Sub.E == 0 && (j.Sub.Row == 0 && (j.Sub.B == 0 && (j.Sub.H == 0 && (j.Sub.Out == 0 && (j.Sub.Code == 0 && (!j.Sub.Done && (j.H == 0 && (j.Old == 0 && (j.Val == 0 && j.Code == 0)))))))))))))))))))
theorem jobZ_iff {j : Job} (hb : j.Busy = false) : jobZ j = true ↔ j = zeroJob := by
 unfold jobZ
 simp only [Bool.and_eq_true, Job.eq_iff, Op.eq_iff, Sub.eq_iff, zeroJob, zeroOp, zeroSub, beq_iff_eq, Bool.not_eq_true', hb, true_and, and_assoc]
theorem c142 (o : Op) : Ctr prog 142 [.agg ((encOp o).map .dat)] [] (.one (.dat (.bool (opOk o)))) [] := by
 simp only [encOp, List.map_cons, List.map_nil]
 have hcl : (bif bif bif o.Kind == 1 then true else o.Kind == 2 then true else o.Kind == 3 then true else o.Kind == 7) = celled o.Kind := by
  rw [celled]; cases o.Kind == 1 <;> cases o.Kind == 2 <;> cases o.Kind == 3 <;> rfl
 have hop : opOk o = (within o.Kind 1 7 && ((bif celled o.Kind then within o.Cell 0 1 else o.Cell == 0) && (bif o.Kind == 1 then within o.Size 0 100 && within o.Val 0 65535 else o.Size == 0 && o.Val == 0))) := rfl
 rw [hop]
 refine Ctr.bd mixed func142 rfl ?_
 refine evl ?_
 refine scs ?_
 simp only [hcl]
 generalize celled o.Kind = c at *
 refine ck e45 (c45 ..) rfl ?_
 refine evl ?_
 refine scs ?_
 constructor <;> intro hq
 ·have hq : within o.Kind 1 7 = false := by simpa using hq
  refine Fin.nt results142 [] ?_ ?_ ?_ <;> try trivial
  (refine rsl ?_; try exact .intro)
  rw [hq]; rfl
 have hq : within o.Kind 1 7 = true := by simpa using hq
 rw [hq]
 have hfin : ∀ d : Bool, (bif o.Kind == 1 then within o.Size 0 100 && within o.Val 0 65535 else o.Size == 0 && o.Val == 0) = d -> d = (bif o.Kind == 1 then within o.Size 0 100 && within o.Val 0 65535 else o.Size == 0 && o.Val == 0) := fun d h => h.symm
 cases c with
 | true =>
  refine evl ?_
  refine scs ?_
  first | refine CCallK_intro e45 (fun hg => ⟨by first | exact trivial | exact hg | exact ⟨hg, hg⟩ | (simp; done) | (simp_all only [Bool.not_false, Bool.not_true, and_self]; done), c45 ..⟩) rfl rfl ?_ | refine Or.inl (CCallK_intro e45 (fun hg => ⟨by first | exact trivial | exact hg | exact ⟨hg, hg⟩ | (simp; done) | (simp_all only [Bool.not_false, Bool.not_true, and_self]; done), c45 ..⟩) rfl rfl ?_)
  rcases hw : within o.Cell 0 1 with _ | _
  ·refine sv0 ?_
   refine scs ?_
   refine Fin.nt results142 [] ?_ ?_ ?_ <;> try trivial
  ·refine sv0 ?_
   refine scs ?_
   constructor <;> intro hk
   ·refine ck e45 (c45 ..) rfl ?_
    refine evl ?_
    refine scs ?_
    first | refine CCallK_intro e45 (fun hg => ⟨by first | exact trivial | exact hg | exact ⟨hg, hg⟩ | (simp; done) | (simp_all only [Bool.not_false, Bool.not_true, and_self]; done), c45 ..⟩) rfl rfl ?_ | refine Or.inl (CCallK_intro e45 (fun hg => ⟨by first | exact trivial | exact hg | exact ⟨hg, hg⟩ | (simp; done) | (simp_all only [Bool.not_false, Bool.not_true, and_self]; done), c45 ..⟩) rfl rfl ?_)
    refine evl ?_
    refine scs ?_
    refine Fin.nt results142 [] ?_ ?_ ?_ <;> try trivial
    (refine rsl ?_; try exact .intro)
    rw [hk]; cases within o.Size 0 100 <;> rfl
   ·refine scs ?_
    refine Fin.nt results142 [] ?_ ?_ ?_ <;> try trivial
    (refine rsl ?_; try exact .intro)
    rw [hk]; cases o.Size == 0 <;> rfl
 | false =>
  rcases hw : (o.Cell == 0) with _ | _
  ·have hw2 : (o.Cell != 0) = true := by simpa [bne] using hw
   refine sv32 ?_
   refine scs ?_
   first | refine CCallK_of (.one (.dat (.bool false))) ?_ | refine CCallK_og (.one (.dat (.bool false))) ?_
   refine sv32 ?_
   refine scs ?_
   refine Fin.nt results142 [] ?_ ?_ ?_ <;> try trivial
  ·have hw2 : (o.Cell != 0) = false := by simpa [bne] using hw
   refine sv32 ?_
   refine scs ?_
   first | refine CCallK_of (.one (.dat (.bool false))) ?_ | refine CCallK_og (.one (.dat (.bool false))) ?_
   refine sv32 ?_
   refine scs ?_
   constructor <;> intro hk
   ·refine ck e45 (c45 ..) rfl ?_
    refine evl ?_
    refine scs ?_
    first | refine CCallK_intro e45 (fun hg => ⟨by first | exact trivial | exact hg | exact ⟨hg, hg⟩ | (simp; done) | (simp_all only [Bool.not_false, Bool.not_true, and_self]; done), c45 ..⟩) rfl rfl ?_ | refine Or.inl (CCallK_intro e45 (fun hg => ⟨by first | exact trivial | exact hg | exact ⟨hg, hg⟩ | (simp; done) | (simp_all only [Bool.not_false, Bool.not_true, and_self]; done), c45 ..⟩) rfl rfl ?_)
    refine evl ?_
    refine scs ?_
    refine Fin.nt results142 [] ?_ ?_ ?_ <;> try trivial
    (refine rsl ?_; try exact .intro)
    rw [hk]; cases within o.Size 0 100 <;> rfl
   ·refine scs ?_
    refine Fin.nt results142 [] ?_ ?_ ?_ <;> try trivial
    (refine rsl ?_; try exact .intro)
    rw [hk]; cases o.Size == 0 <;> rfl
theorem c122 (k : Int) : Ctr prog 122 [.one (.dat (.int .i64 k))] [] (.one (.dat (.bool (celled k)))) [] := by
 refine Ctr.bd mixed func122 rfl ?_
 refine evl ?_
 refine scs ?_
 refine Fin.nt results122 [] ?_ ?_ ?_ <;> try trivial
 (refine rsl ?_; try exact .intro)
 rw [celled]
 cases k == 1 <;> cases k == 2 <;> cases k == 3 <;> rfl
theorem c66 (o : Op) : Ctr prog 66 [.agg ((encOp o).map .dat)] [] (.one (.dat (.bool (opOk o)))) [] := by
 simp only [encOp, List.map_cons, List.map_nil]
 have hcd := c122 o.Kind
 have hop : opOk o = (within o.Kind 1 7 && ((bif celled o.Kind then within o.Cell 0 1 else o.Cell == 0) && (bif o.Kind == 1 then within o.Size 0 100 && within o.Val 0 65535 else o.Size == 0 && o.Val == 0))) := rfl
 rw [hop]
 generalize celled o.Kind = c at *
 refine Ctr.bd mixed func66 rfl ?_
 refine evl ?_
 refine scs ?_
 refine ck e51 (c51 ..) rfl ?_
 refine evl ?_
 refine scs ?_
 constructor <;> intro hq
 ·have hq : within o.Kind 1 7 = false := by simpa using hq
  refine Fin.nt results66 [] ?_ ?_ ?_ <;> try trivial
  (refine rsl ?_; try exact .intro)
  rw [hq]; rfl
 have hq : within o.Kind 1 7 = true := by simpa using hq
 rw [hq]
 refine scs ?_
 refine ck e122 (hcd) rfl ?_
 have hend : ∀ d : Bool, d = true -> (within o.Kind 1 7 && (d && (bif o.Kind == 1 then within o.Size 0 100 && within o.Val 0 65535 else o.Size == 0 && o.Val == 0))) = (bif o.Kind == 1 then within o.Size 0 100 && within o.Val 0 65535 else o.Size == 0 && o.Val == 0) := fun d h => by rw [hq, h]; rfl
 clear hend
 cases c with
 | true =>
  refine evl ?_
  refine scs ?_
  first | refine CCallK_intro e51 (fun hg => ⟨by first | exact trivial | exact hg | exact ⟨hg, hg⟩ | (simp; done) | (simp_all only [Bool.not_false, Bool.not_true, and_self]; done), c51 ..⟩) rfl rfl ?_ | refine Or.inl (CCallK_intro e51 (fun hg => ⟨by first | exact trivial | exact hg | exact ⟨hg, hg⟩ | (simp; done) | (simp_all only [Bool.not_false, Bool.not_true, and_self]; done), c51 ..⟩) rfl rfl ?_)
  rcases hw : within o.Cell 0 1 with _ | _
  ·refine sv0 ?_
   refine scs ?_
   refine Fin.nt results66 [] ?_ ?_ ?_ <;> try trivial
  ·refine sv0 ?_
   refine scs ?_
   constructor <;> intro hk
   ·have hk : (o.Kind == 1) = false := by simpa [bne] using hk
    refine scs ?_
    refine Fin.nt results66 [] ?_ ?_ ?_ <;> try trivial
    (refine rsl ?_; try exact .intro)
    rw [hk]; cases o.Size == 0 <;> rfl
   ·have hk : (o.Kind == 1) = true := by simpa [bne] using hk
    refine scs ?_
    refine ck e51 (c51 ..) rfl ?_
    refine evl ?_
    refine scs ?_
    first | refine CCallK_intro e51 (fun hg => ⟨by first | exact trivial | exact hg | exact ⟨hg, hg⟩ | (simp; done) | (simp_all only [Bool.not_false, Bool.not_true, and_self]; done), c51 ..⟩) rfl rfl ?_ | refine Or.inl (CCallK_intro e51 (fun hg => ⟨by first | exact trivial | exact hg | exact ⟨hg, hg⟩ | (simp; done) | (simp_all only [Bool.not_false, Bool.not_true, and_self]; done), c51 ..⟩) rfl rfl ?_)
    refine evl ?_
    refine scs ?_
    refine Fin.nt results66 [] ?_ ?_ ?_ <;> try trivial
    (refine rsl ?_; try exact .intro)
    rw [hk]; cases within o.Size 0 100 <;> rfl
 | false =>
  rcases hw : (o.Cell == 0) with _ | _
  ·have hw2 : (o.Cell != 0) = true := by simpa [bne] using hw
   refine sv32 ?_
   refine scs ?_
   first | refine CCallK_of (.one (.dat (.bool false))) ?_ | refine CCallK_og (.one (.dat (.bool false))) ?_
   refine sv32 ?_
   refine scs ?_
   refine Fin.nt results66 [] ?_ ?_ ?_ <;> try trivial
  ·have hw2 : (o.Cell != 0) = false := by simpa [bne] using hw
   have hw3 : within o.Cell 0 1 = true := by
    have : o.Cell = 0 := by simpa using hw
    rw [this]; rfl
   refine sv32 ?_
   refine scs ?_
   first | refine CCallK_intro e51 (fun hg => ⟨by first | exact trivial | exact hg | exact ⟨hg, hg⟩ | (simp; done) | (simp_all only [Bool.not_false, Bool.not_true, and_self]; done), c51 ..⟩) rfl rfl ?_ | refine Or.inl (CCallK_intro e51 (fun hg => ⟨by first | exact trivial | exact hg | exact ⟨hg, hg⟩ | (simp; done) | (simp_all only [Bool.not_false, Bool.not_true, and_self]; done), c51 ..⟩) rfl rfl ?_)
   simp (maxSteps := 2000000) only [go_sem, seval, hw3]
   refine scs ?_
   constructor <;> intro hk
   ·have hk : (o.Kind == 1) = false := by simpa [bne] using hk
    refine scs ?_
    refine Fin.nt results66 [] ?_ ?_ ?_ <;> try trivial
    (refine rsl ?_; try exact .intro)
    rw [hk]; cases o.Size == 0 <;> rfl
   ·have hk : (o.Kind == 1) = true := by simpa [bne] using hk
    refine scs ?_
    refine ck e51 (c51 ..) rfl ?_
    refine evl ?_
    refine scs ?_
    first | refine CCallK_intro e51 (fun hg => ⟨by first | exact trivial | exact hg | exact ⟨hg, hg⟩ | (simp; done) | (simp_all only [Bool.not_false, Bool.not_true, and_self]; done), c51 ..⟩) rfl rfl ?_ | refine Or.inl (CCallK_intro e51 (fun hg => ⟨by first | exact trivial | exact hg | exact ⟨hg, hg⟩ | (simp; done) | (simp_all only [Bool.not_false, Bool.not_true, and_self]; done), c51 ..⟩) rfl rfl ?_)
    refine evl ?_
    refine scs ?_
    refine Fin.nt results66 [] ?_ ?_ ?_ <;> try trivial
    (refine rsl ?_; try exact .intro)
    rw [hk]; cases within o.Size 0 100 <;> rfl
theorem c141 (o : Op) : Ctr prog 141 [.agg ((encOp o).map .dat)] [] (.one (.dat (.bool (!opOk o)))) [] := by
 have hcb := c142 o
 simp only [encOp, List.map_cons, List.map_nil] at hcb ⊢
 refine Ctr.bd mixed func141 rfl ?_
 refine evl ?_
 refine scs ?_
 refine ck e142 (hcb) rfl ?_
 refine evl ?_
 refine Fin.nt results141 [] ?_ ?_ ?_ <;> try trivial
theorem c139 (q : Queue) (hl : q.Ops.length <= maxLen) : Ctr prog 139 [.agg ((encQueue q).map .dat)] [] (.one (.dat (.bool (!opsOk q)))) [] := by
 simp only [encQueue, List.map_cons, List.map_nil]
 refine Ctr.bd mixed func139 rfl ?_
 refine sv11 ?_
 refine scs ?_
 refine ck e140 (c140_k0 q.Ops hl e141 (fun x _ => c141 x)) rfl ?_
 refine sv11 ?_
 refine scs ?_
 refine Fin.nt results139 [] ?_ ?_ ?_ <;> try trivial
 (refine rsl ?_; try exact .intro)
 have he : decide (12 < (q.Ops.length : Int)) = !decide ((q.Ops.length : Int) <= 12) := by
  by_cases h : (q.Ops.length : Int) <= 12
  ·simp [h]
  ·simp [h]; omega
 rw [he, opsOk, <- any_not_all]
 cases decide ((q.Ops.length : Int) <= 12) <;> simp
theorem c74 (l : List Queue) (hz : sizQueueS l <= 1048576) : Ctr prog 74 [.one (.dat (.sl 1 (l.map encQueue)))] [] (.one (.dat (.bool (todoOk l)))) [] := by
 have hmx : maxLen = 9223372036854775807 := rfl
 obtain ⟨hl, hq⟩ := todo_len hz
 refine Ctr.bd mixed func74 rfl ?_
 refine sv11 ?_
 refine scs ?_
 refine ck e103 (c103_k0 l (by omega) e139 (fun x hx => c139 x (by have := hq x hx; omega))) rfl ?_
 refine sv11 ?_
 refine scs ?_
 refine Fin.nt results74 [] ?_ ?_ ?_ <;> try trivial
 (refine rsl ?_; try exact .intro)
 simp only [todoOk, <- any_not_all, ibeq]
 cases decide ((l.length : Int) = 3) <;> rfl
theorem c64 (l : List Queue) (hz : sizQueueS l <= 1048576) : Ctr prog 64 [.one (.dat (.sl 1 (l.map encQueue)))] [] (.one (.dat (.bool (todoOk l)))) [] := by
 have hmx : maxLen = 9223372036854775807 := rfl
 obtain ⟨hl, hql⟩ := todo_len hz
 have hcb := fun b => c66 b
 simp only [encOp, List.map_cons, List.map_nil] at hcb
 refine Ctr.bd mixed func64 rfl ?_
 refine sv11 ?_
 refine scs ?_
 refine LoopK_intro (fun zn zs => ∃ i : Nat, i <= l.length /\ zn = l.length - i /\ (l.all opsOk = (l.drop i).all opsOk) /\ zs = mkSt [(3, .one (.dat (.int .i64 i))), (0, .one (.dat (.sl 1 (l.map encQueue))))] []) (l.length) _
  (Ent.wk []) ⟨0, by omega, by omega, rfl, rfl⟩ ?_
 rintro zn zs ⟨i, hi, rfl, hinv, rfl⟩ K hK
 rcases Nat.lt_or_ge i (l.length) with hlt | hge
 ·have hdi : decide ((i : Int) < ((l.length : Nat) : Int)) = true := decide_eq_true (by omega)
  have hw := wrap_succ hlt (show l.length <= maxLen by omega)
  rw [List.drop_eq_getElem_cons hlt, List.all_cons] at hinv
  obtain ⟨q, hqi⟩ : ∃ q, l[i] = q := ⟨_, rfl⟩
  have hqm : q ∈ l := hqi ▸ List.getElem_mem hlt
  have hl1 := hql q hqm
  rw [hqi] at hinv
  refine sv33 ?_
  refine scs ?_
  constructor <;> intro hq
  ·have hp0 : opsOk q = false := by
    have hd := of_decide_eq_true hq
    rw [opsOk, decide_eq_false (by omega)]; rfl
   rw [hp0, Bool.false_and] at hinv
   apply hK
   refine sv33 ?_
   refine Fin.nt results64 [] ?_ ?_ ?_ <;> try trivial
   (refine rsl ?_; try exact .intro)
   rw [todoOk, hinv, Bool.and_false]
  have hq0 : opsOk q = q.Ops.all opOk := by
   have hd := of_decide_eq_false hq
   rw [opsOk, decide_eq_true (by omega)]; rfl
  clear hq
  obtain ⟨B, hB⟩ : ∃ B, q.Ops = B := ⟨_, rfl⟩
  rw [hB] at hq0 hl1 ⊢
  refine LoopK_intro (fun zn zs => ∃ k : Nat, k <= B.length /\ zn = B.length - k /\ (B.all opOk = (B.drop k).all opOk) /\ zs = mkSt [(4, .one (.dat (.int .i64 k))), (3, .one (.dat (.int .i64 i))), (0, .one (.dat (.sl 1 (l.map encQueue))))] []) (B.length) _
   (Ent.wk []) ⟨0, by omega, by omega, rfl, rfl⟩ ?_
  rintro zn zs ⟨k, hi2, rfl, hinv2, rfl⟩ K2 hK2
  rcases Nat.lt_or_ge k (B.length) with hlt2 | hge2
  ·have hdi2 : decide ((k : Int) < ((B.length : Nat) : Int)) = true := decide_eq_true (by omega)
   have hw2 := wrap_succ hlt2 (show B.length <= maxLen by omega)
   rw [List.drop_eq_getElem_cons hlt2, List.all_cons] at hinv2
   obtain ⟨b, hbk⟩ : ∃ b, B[k] = b := ⟨_, rfl⟩
   rw [hbk] at hinv2
   refine sv34 ?_
   refine scs ?_
   refine ck e66 (hcb b) rfl ?_
   refine sv34 ?_
   refine scs ?_
   constructor <;> intro hq
   ·have hp1 : opOk b = false := by simpa using hq
    rw [hp1, Bool.false_and] at hinv2
    rw [hq0, hinv2, Bool.false_and] at hinv
    apply hK2
    refine sv34 ?_
    apply hK
    refine sv34 ?_
    refine Fin.nt results64 [] ?_ ?_ ?_ <;> try trivial
    (refine rsl ?_; try exact .intro)
    rw [todoOk, hinv, Bool.and_false]
   ·have hp1 : opOk b = true := by simpa using hq
    rw [hp1, Bool.true_and] at hinv2
    (apply hK2
     exact ⟨B.length - (k + 1), _, by omega, Ent.wk [], k + 1, by omega, rfl, hinv2, rfl⟩)
  ·have hge2' : B.length = k := by omega
   subst hge2'
   have hdi2 : decide (((B.length : Nat) : Int) < ((B.length : Nat) : Int)) = false := by simp
   rw [List.drop_length, List.all_nil] at hinv2
   rw [hq0, hinv2, Bool.true_and] at hinv
   simp (maxSteps := 2000000) only [go_sem, seval, hdi2, hdi, getD_map hlt, hqi, hB, encQueue]
   refine scs ?_
   apply hK2
   refine sv0 ?_
   (apply hK
    exact ⟨l.length - (i + 1), _, by omega, Ent.wk [], i + 1, by omega, rfl, hinv, rfl⟩)
 ·have hge' : l.length = i := by omega
  subst hge'
  have hdi : decide (((l.length : Nat) : Int) < ((l.length : Nat) : Int)) = false := by simp
  rw [List.drop_length, List.all_nil] at hinv
  refine sv3 ?_
  apply hK
  refine sv11 ?_
  refine Fin.nt results64 [] ?_ ?_ ?_ <;> try trivial
  (refine rsl ?_; try exact .intro)
  rw [todoOk, hinv, Bool.and_true, ibeq]
theorem c80 (j : Job) : Ctr prog 80 [.agg ((encJob j).map .dat)] [] (.one (.dat (.bool (jobOk j)))) [] := by
 have hco := c142 j.Op
 simp only [encOp, List.map_cons, List.map_nil] at hco
 simp only [encJob, List.map_cons, List.map_nil]
 have hjo : jobOk j = bif j.Busy then opOk j.Op && (isLink j.H && isLink j.Old) else decide (j = zeroJob) := rfl
 rw [hjo]
 refine Ctr.bd mixed func80 rfl ?_
 refine evl ?_
 refine scs ?_
 constructor <;> intro hb
 ·refine scs ?_
  refine Fin.nt results80 [] ?_ ?_ ?_ <;> try trivial
  (refine rsl ?_; try exact .intro)
  have hb : j.Busy = false := by simpa using hb
  rw [hb, cond_false, Bool.eq_iff_iff]
  simp only [Bool.and_eq_true, decide_eq_true_eq, Job.eq_iff, Op.eq_iff, Sub.eq_iff, zeroJob, zeroOp, zeroSub, beq_iff_eq, Bool.not_eq_true', hb, Bool.not_false, true_and, and_assoc]
 ·have hb : j.Busy = true := by simpa using hb
  rw [hb]
  refine scs ?_
  refine ck e142 (hco) rfl ?_
  refine evl ?_
  refine scs ?_
  first | refine CCallK_intro e77 (fun hg => ⟨by first | exact trivial | exact hg | exact ⟨hg, hg⟩ | (simp; done) | (simp_all only [Bool.not_false, Bool.not_true, and_self]; done), c77 ..⟩) rfl rfl ?_ | refine Or.inl (CCallK_intro e77 (fun hg => ⟨by first | exact trivial | exact hg | exact ⟨hg, hg⟩ | (simp; done) | (simp_all only [Bool.not_false, Bool.not_true, and_self]; done), c77 ..⟩) rfl rfl ?_)
  refine evl ?_
  refine scs ?_
  first | refine CCallK_intro e77 (fun hg => ⟨by first | exact trivial | exact hg | exact ⟨hg, hg⟩ | (simp; done) | (simp_all only [Bool.not_false, Bool.not_true, and_self]; done), c77 ..⟩) rfl rfl ?_ | refine Or.inl (CCallK_intro e77 (fun hg => ⟨by first | exact trivial | exact hg | exact ⟨hg, hg⟩ | (simp; done) | (simp_all only [Bool.not_false, Bool.not_true, and_self]; done), c77 ..⟩) rfl rfl ?_)
  refine evl ?_
  refine scs ?_
  refine Fin.nt results80 [] ?_ ?_ ?_ <;> try trivial
  (refine rsl ?_; try exact .intro)
  cases opOk j.Op <;> cases isLink j.H <;> rfl
theorem c76 (x : Int) : Ctr prog 76 [.one (.dat (.int .i64 x))] [] (.one (.dat (.bool (!isLink x)))) [] := by
 refine Ctr.bd mixed func76 rfl ?_
 refine evl ?_
 refine scs ?_
 refine ck e77 (c77 x) rfl ?_
 refine evl ?_
 refine Fin.nt results76 [] ?_ ?_ ?_ <;> try trivial
theorem c79 (x : Job) : Ctr prog 79 [.agg ((encJob x).map .dat)] [] (.one (.dat (.bool (!jobOk x)))) [] := by
 have hcj := c80 x
 simp only [encJob, List.map_cons, List.map_nil] at hcj ⊢
 refine Ctr.bd mixed func79 rfl ?_
 refine sv35 ?_
 refine scs ?_
 refine ck e80 (hcj) rfl ?_
 refine sv35 ?_
 refine Fin.nt results79 [] ?_ ?_ ?_ <;> try trivial
theorem c34 (s : Shelf) (hz : sizShelf s <= 1048576) : Ctr prog 34 [.agg ((encShelf s).map .dat)] [] (.one (.dat (.bool (shelfOk s)))) [] := by
 have hmx : maxLen = 9223372036854775807 := rfl
 obtain ⟨z1, z2, z3, z4⟩ := shelf_len hz
 have hcb := c73 s.Base z1
 simp only [encBase, encShelf, List.map_cons, List.map_nil] at hcb ⊢
 refine Ctr.bd mixed func34 rfl ?_
 refine sv11 ?_
 refine scs ?_
 refine ck e73 (hcb) rfl ?_
 refine sv11 ?_
 refine scs ?_
 refine ck e74 (c74 s.Todo z4) rfl ?_
 refine sv11 ?_
 refine scs ?_
 refine ck e45 (c45 ..) rfl ?_
 refine sv11 ?_
 refine scs ?_
 refine ck e75 (c75_k0 s.Cells (by omega) e76 (fun x _ => c76 x)) rfl ?_
 refine sv11 ?_
 refine scs ?_
 refine ck e78 (c78_k0 s.Jobs (by omega) e79 (fun x _ => c79 x)) rfl ?_
 refine sv11 ?_
 refine scs ?_
 refine Fin.nt results34 [] ?_ ?_ ?_ <;> try trivial
 (refine rsl ?_; try exact .intro)
 rw [shelfOk, <- any_not_all, <- any_not_all]
 simp only [Bool.cond_false_right, Bool.and_assoc, ibeq]
theorem job_z {j : Job} (h : j = zeroJob) : j.H = 0 /\ j.Old = 0 /\ j.Busy = false := by subst h; exact ⟨rfl, rfl, rfl⟩
theorem c28 (s : Shelf) (hz : sizShelf s <= 1048576) : Ctr prog 28 [.agg ((encShelf s).map .dat)] [] (.one (.dat (.bool (shelfOk s)))) [] := by
 have hmx : maxLen = 9223372036854775807 := rfl
 obtain ⟨z1, z2, z3, z4⟩ := shelf_len hz
 have hcb := c63 s.Base z1
 have hco := fun o => c66 o
 simp only [encBase, encShelf, encOp, List.map_cons, List.map_nil] at hcb hco ⊢
 refine Ctr.bd mixed func28 rfl ?_
 refine sv11 ?_
 refine scs ?_
 refine ck e63 (hcb) rfl ?_
 refine sv11 ?_
 refine scs ?_
 refine ck e64 (c64 s.Todo z4) rfl ?_
 refine sv11 ?_
 refine scs ?_
 refine ck e51 (c51 ..) rfl ?_
 refine sv11 ?_
 refine scs ?_
 obtain ⟨a, ha⟩ : ∃ a, a = (baseOk s.Base && (decide ((s.Cells.length : Int) = 2) && (decide ((s.Jobs.length : Int) = 3) && (todoOk s.Todo && within s.Serial 0 1000000)))) := ⟨_, rfl⟩
 have hto : shelfOk s = (a && (s.Cells.all isLink && s.Jobs.all jobOk)) := by
  rw [shelfOk, ha]
  cases baseOk s.Base <;> cases decide ((s.Cells.length : Int) = 2) <;> cases decide ((s.Jobs.length : Int) = 3) <;> cases todoOk s.Todo <;> cases within s.Serial 0 1000000 <;> simp
 constructor <;> intro hq
 ·have ha0 : a = false := by
   rw [ha]
   revert hq
   cases baseOk s.Base <;> cases todoOk s.Todo <;> cases within s.Serial 0 1000000 <;> simp <;> omega
  refine Fin.nt results28 [] ?_ ?_ ?_ <;> try trivial
  (refine rsl ?_; try exact .intro)
  rw [hto, ha0, Bool.false_and]
 have ha1 : baseOk s.Base = true /\ (s.Cells.length : Int) = 2 /\ (s.Jobs.length : Int) = 3 /\ a = true := by
  rw [ha]
  revert hq
  cases baseOk s.Base <;> cases todoOk s.Todo <;> cases within s.Serial 0 1000000 <;> simp <;> omega
 obtain ⟨_, hb2, hj3, ha2⟩ := ha1
 rw [ha2, Bool.true_and] at hto
 rw [hto]
 clear hq ha hcb
 refine LoopK_intro (fun zn zs => ∃ i : Nat, i <= 2 /\ zn = 2 - i /\ (s.Cells.all isLink = (s.Cells.drop i).all isLink) /\ zs = mkSt [(3, .one (.dat (.int .i64 i))), (1, .one (.ptr (.own 0 0 0)))] [.box [.dat (.sl 1 (s.Base.Mem.Heap.Bytes.map encI)), .dat (.sl 1 (s.Base.Mem.Heap.Class.map encI)), .dat (.sl 1 (s.Base.Mem.Lists.Global.map encSList)), .dat (.sl 1 (s.Base.Mem.Lists.Own.map encSList)), .dat (.int .i64 s.Base.Clock.Epoch), .dat (.sl 4 (s.Base.Clock.Pins.map encPin)), .dat (.sl 1 (s.Base.Limbo.map encLList)), .dat (.sl 1 (s.Base.Haz.map encI)), .dat (.sl 1 (s.Cells.map encI)), .dat (.sl 21 (s.Jobs.map encJob)), .dat (.sl 1 (s.Todo.map encQueue)), .dat (.sl 7 (s.Log.map encEv)), .dat (.int .i64 s.Serial)]]) (2) _
  (Ent.wk [0]) ⟨0, by omega, by omega, rfl, rfl⟩ ?_
 rintro zn zs ⟨i, hi, rfl, hinv, rfl⟩ K hK
 rcases Nat.lt_or_ge i (2) with hlt | hge
 ·have hdi : decide ((i : Int) < ((2 : Nat) : Int)) = true := decide_eq_true (by omega)
  have hw := wrap_succ hlt (show 2 <= maxLen by decide)
  have hd3 : decide ((i : Int) < 2) = true := decide_eq_true (by omega)
  have hgi : i < s.Cells.length := by omega
  rw [List.drop_eq_getElem_cons hgi, List.all_cons] at hinv
  refine sv36 ?_
  refine scs ?_
  refine ck e65 (c65 ..) rfl ?_
  refine sv36 ?_
  refine scs ?_
  constructor <;> intro hq
  ·rw [not_t hq, Bool.false_and] at hinv
   apply hK
   refine sv36 ?_
   refine Fin.nt results28 [] ?_ ?_ ?_ <;> try trivial
   (refine rsl ?_; try exact .intro)
   rw [hinv, Bool.false_and]
  ·rw [not_f hq, Bool.true_and] at hinv
   (apply hK
    exact ⟨2 - (i + 1), _, by omega, Ent.wk [0], i + 1, by omega, rfl, hinv, rfl⟩)
 ·have hge' : 2 = i := by omega
  subst hge'
  have hdi : decide (((2 : Nat) : Int) < ((2 : Nat) : Int)) = false := by simp
  have hd3 : decide (((2 : Nat) : Int) < 2) = false := rfl
  rw [List.drop_of_length_le (by omega), List.all_nil] at hinv
  have hbk := hinv
  clear hinv
  refine sv24 ?_
  apply hK
  rw [hbk, Bool.true_and]
  refine evl ?_
  refine LoopK_intro (fun zn zs => ∃ i : Nat, i <= 3 /\ zn = 3 - i /\ (s.Jobs.all jobOk = (s.Jobs.drop i).all jobOk) /\ zs = mkSt [(4, .one (.dat (.int .i64 i))), (1, .one (.ptr (.own 0 0 0)))] [.box [.dat (.sl 1 (s.Base.Mem.Heap.Bytes.map encI)), .dat (.sl 1 (s.Base.Mem.Heap.Class.map encI)), .dat (.sl 1 (s.Base.Mem.Lists.Global.map encSList)), .dat (.sl 1 (s.Base.Mem.Lists.Own.map encSList)), .dat (.int .i64 s.Base.Clock.Epoch), .dat (.sl 4 (s.Base.Clock.Pins.map encPin)), .dat (.sl 1 (s.Base.Limbo.map encLList)), .dat (.sl 1 (s.Base.Haz.map encI)), .dat (.sl 1 (s.Cells.map encI)), .dat (.sl 21 (s.Jobs.map encJob)), .dat (.sl 1 (s.Todo.map encQueue)), .dat (.sl 7 (s.Log.map encEv)), .dat (.int .i64 s.Serial)]]) (3) _
   (Ent.wk [0]) ⟨0, by omega, by omega, rfl, rfl⟩ ?_
  rintro zn zs ⟨i, hi, rfl, hinv, rfl⟩ K hK
  rcases Nat.lt_or_ge i (3) with hlt | hge
  ·have hdi : decide ((i : Int) < ((3 : Nat) : Int)) = true := decide_eq_true (by omega)
   have hw := wrap_succ hlt (show 3 <= maxLen by decide)
   have hd3 : decide ((i : Int) < 3) = true := decide_eq_true (by omega)
   have hgi : i < s.Jobs.length := by omega
   rw [List.drop_eq_getElem_cons hgi, List.all_cons] at hinv
   obtain ⟨j, hji⟩ : ∃ j, s.Jobs[i] = j := ⟨_, rfl⟩
   rw [hji] at hinv
   have hE : (j.Op.Kind == 0 && (j.Op.Cell == 0 && (j.Op.Size == 0 && (j.Op.Val == 0 && (j.Serial == 0 && (j.Pc == 0 && (j.Sub.Kind == 0 && (j.Sub.A == 0 && (j.Sub.Pc == 0 && (j.Sub.E == 0 && (j.Sub.Row == 0 && (j.Sub.B == 0 && (j.Sub.H == 0 && (j.Sub.Out == 0 && (j.Sub.Code == 0 && (!j.Sub.Done && (j.H == 0 && (j.Old == 0 && (j.Val == 0 && j.Code == 0))))))))))))))))))) = jobZ j := rfl
   have hcj := hco j.Op
   rcases hbz : j.Busy with _ | _
   ·have hjo : jobOk j = jobZ j := by rw [jobOk, hbz, cond_false, Bool.eq_iff_iff, jobZ_iff hbz, decide_eq_true_eq]
    rcases hzz : jobZ j with _ | _
    ·rw [hjo, hzz, Bool.false_and] at hinv
     refine sv37 ?_
     refine scs ?_
     first | refine CCallK_of (.one (.dat (.bool false))) ?_ | refine CCallK_og (.one (.dat (.bool false))) ?_
     refine sv38 ?_
     refine scs ?_
     first | refine CCallK_of (.one (.dat (.bool false))) ?_ | refine CCallK_og (.one (.dat (.bool false))) ?_
     refine sv38 ?_
     refine scs ?_
     first | refine CCallK_of (.one (.dat (.bool false))) ?_ | refine CCallK_og (.one (.dat (.bool false))) ?_
     refine sv38 ?_
     refine scs ?_
     apply hK
     refine sv38 ?_
     refine Fin.nt results28 [] ?_ ?_ ?_ <;> try trivial
     (refine rsl ?_; try exact .intro)
     rw [hinv]
    ·have hz := (jobZ_iff hbz).1 hzz
     have h1 : isLink j.H = true := by rw [hz]; rfl
     have h2 : isLink j.Old = true := by rw [hz]; rfl
     rw [hjo, hzz, Bool.true_and] at hinv
     refine sv37 ?_
     refine scs ?_
     first | refine CCallK_of (.one (.dat (.bool false))) ?_ | refine CCallK_og (.one (.dat (.bool false))) ?_
     refine sv38 ?_
     refine scs ?_
     first | refine CCallK_intro e65 (fun hg => ⟨by first | exact trivial | exact hg | exact ⟨hg, hg⟩ | (simp; done) | (simp_all only [Bool.not_false, Bool.not_true, and_self]; done), c65 ..⟩) rfl rfl ?_ | refine Or.inl (CCallK_intro e65 (fun hg => ⟨by first | exact trivial | exact hg | exact ⟨hg, hg⟩ | (simp; done) | (simp_all only [Bool.not_false, Bool.not_true, and_self]; done), c65 ..⟩) rfl rfl ?_)
     refine sv39 ?_
     refine scs ?_
     first | refine CCallK_intro e65 (fun hg => ⟨by first | exact trivial | exact hg | exact ⟨hg, hg⟩ | (simp; done) | (simp_all only [Bool.not_false, Bool.not_true, and_self]; done), c65 ..⟩) rfl rfl ?_ | refine Or.inl (CCallK_intro e65 (fun hg => ⟨by first | exact trivial | exact hg | exact ⟨hg, hg⟩ | (simp; done) | (simp_all only [Bool.not_false, Bool.not_true, and_self]; done), c65 ..⟩) rfl rfl ?_)
     refine sv40 ?_
     refine scs ?_
     (apply hK
      exact ⟨3 - (i + 1), _, by omega, Ent.wk [0], i + 1, by omega, rfl, hinv, rfl⟩)
   ·have hjo : jobOk j = (opOk j.Op && (isLink j.H && isLink j.Old)) := by rw [jobOk, hbz, cond_true]
    rcases ho : opOk j.Op with _ | _
    ·rw [hjo, ho, Bool.false_and, Bool.false_and] at hinv
     refine sv41 ?_
     refine scs ?_
     first | refine CCallK_intro e66 (fun hg => ⟨by first | exact trivial | exact hg | exact ⟨hg, hg⟩ | (simp; done) | (simp_all only [Bool.not_false, Bool.not_true, and_self]; done), hcj⟩) rfl rfl ?_ | refine Or.inl (CCallK_intro e66 (fun hg => ⟨by first | exact trivial | exact hg | exact ⟨hg, hg⟩ | (simp; done) | (simp_all only [Bool.not_false, Bool.not_true, and_self]; done), hcj⟩) rfl rfl ?_)
     refine sv42 ?_
     refine scs ?_
     first | refine CCallK_of (.one (.dat (.bool false))) ?_ | refine CCallK_og (.one (.dat (.bool false))) ?_
     refine sv38 ?_
     refine scs ?_
     first | refine CCallK_of (.one (.dat (.bool false))) ?_ | refine CCallK_og (.one (.dat (.bool false))) ?_
     refine sv38 ?_
     refine scs ?_
     apply hK
     refine sv38 ?_
     refine Fin.nt results28 [] ?_ ?_ ?_ <;> try trivial
     (refine rsl ?_; try exact .intro)
     rw [hinv]
    rcases h1 : isLink j.H with _ | _
    ·rw [hjo, ho, h1, Bool.false_and, Bool.true_and, Bool.false_and] at hinv
     refine sv41 ?_
     refine scs ?_
     first | refine CCallK_intro e66 (fun hg => ⟨by first | exact trivial | exact hg | exact ⟨hg, hg⟩ | (simp; done) | (simp_all only [Bool.not_false, Bool.not_true, and_self]; done), hcj⟩) rfl rfl ?_ | refine Or.inl (CCallK_intro e66 (fun hg => ⟨by first | exact trivial | exact hg | exact ⟨hg, hg⟩ | (simp; done) | (simp_all only [Bool.not_false, Bool.not_true, and_self]; done), hcj⟩) rfl rfl ?_)
     refine sv42 ?_
     refine scs ?_
     first | refine CCallK_intro e65 (fun hg => ⟨by first | exact trivial | exact hg | exact ⟨hg, hg⟩ | (simp; done) | (simp_all only [Bool.not_false, Bool.not_true, and_self]; done), c65 ..⟩) rfl rfl ?_ | refine Or.inl (CCallK_intro e65 (fun hg => ⟨by first | exact trivial | exact hg | exact ⟨hg, hg⟩ | (simp; done) | (simp_all only [Bool.not_false, Bool.not_true, and_self]; done), c65 ..⟩) rfl rfl ?_)
     refine sv39 ?_
     refine scs ?_
     first | refine CCallK_of (.one (.dat (.bool false))) ?_ | refine CCallK_og (.one (.dat (.bool false))) ?_
     refine sv38 ?_
     refine scs ?_
     apply hK
     refine sv38 ?_
     refine Fin.nt results28 [] ?_ ?_ ?_ <;> try trivial
     (refine rsl ?_; try exact .intro)
     rw [hinv]
    rcases h2 : isLink j.Old with _ | _
    ·rw [hjo, ho, h1, h2, Bool.true_and, Bool.true_and, Bool.false_and] at hinv
     refine sv41 ?_
     refine scs ?_
     first | refine CCallK_intro e66 (fun hg => ⟨by first | exact trivial | exact hg | exact ⟨hg, hg⟩ | (simp; done) | (simp_all only [Bool.not_false, Bool.not_true, and_self]; done), hcj⟩) rfl rfl ?_ | refine Or.inl (CCallK_intro e66 (fun hg => ⟨by first | exact trivial | exact hg | exact ⟨hg, hg⟩ | (simp; done) | (simp_all only [Bool.not_false, Bool.not_true, and_self]; done), hcj⟩) rfl rfl ?_)
     refine sv42 ?_
     refine scs ?_
     first | refine CCallK_intro e65 (fun hg => ⟨by first | exact trivial | exact hg | exact ⟨hg, hg⟩ | (simp; done) | (simp_all only [Bool.not_false, Bool.not_true, and_self]; done), c65 ..⟩) rfl rfl ?_ | refine Or.inl (CCallK_intro e65 (fun hg => ⟨by first | exact trivial | exact hg | exact ⟨hg, hg⟩ | (simp; done) | (simp_all only [Bool.not_false, Bool.not_true, and_self]; done), c65 ..⟩) rfl rfl ?_)
     refine sv39 ?_
     refine scs ?_
     first | refine CCallK_intro e65 (fun hg => ⟨by first | exact trivial | exact hg | exact ⟨hg, hg⟩ | (simp; done) | (simp_all only [Bool.not_false, Bool.not_true, and_self]; done), c65 ..⟩) rfl rfl ?_ | refine Or.inl (CCallK_intro e65 (fun hg => ⟨by first | exact trivial | exact hg | exact ⟨hg, hg⟩ | (simp; done) | (simp_all only [Bool.not_false, Bool.not_true, and_self]; done), c65 ..⟩) rfl rfl ?_)
     refine sv40 ?_
     refine scs ?_
     apply hK
     refine sv38 ?_
     refine Fin.nt results28 [] ?_ ?_ ?_ <;> try trivial
     (refine rsl ?_; try exact .intro)
     rw [hinv]
    ·rw [hjo, ho, h1, h2, Bool.true_and, Bool.true_and, Bool.true_and] at hinv
     refine sv41 ?_
     refine scs ?_
     first | refine CCallK_intro e66 (fun hg => ⟨by first | exact trivial | exact hg | exact ⟨hg, hg⟩ | (simp; done) | (simp_all only [Bool.not_false, Bool.not_true, and_self]; done), hcj⟩) rfl rfl ?_ | refine Or.inl (CCallK_intro e66 (fun hg => ⟨by first | exact trivial | exact hg | exact ⟨hg, hg⟩ | (simp; done) | (simp_all only [Bool.not_false, Bool.not_true, and_self]; done), hcj⟩) rfl rfl ?_)
     refine sv42 ?_
     refine scs ?_
     first | refine CCallK_intro e65 (fun hg => ⟨by first | exact trivial | exact hg | exact ⟨hg, hg⟩ | (simp; done) | (simp_all only [Bool.not_false, Bool.not_true, and_self]; done), c65 ..⟩) rfl rfl ?_ | refine Or.inl (CCallK_intro e65 (fun hg => ⟨by first | exact trivial | exact hg | exact ⟨hg, hg⟩ | (simp; done) | (simp_all only [Bool.not_false, Bool.not_true, and_self]; done), c65 ..⟩) rfl rfl ?_)
     refine sv39 ?_
     refine scs ?_
     first | refine CCallK_intro e65 (fun hg => ⟨by first | exact trivial | exact hg | exact ⟨hg, hg⟩ | (simp; done) | (simp_all only [Bool.not_false, Bool.not_true, and_self]; done), c65 ..⟩) rfl rfl ?_ | refine Or.inl (CCallK_intro e65 (fun hg => ⟨by first | exact trivial | exact hg | exact ⟨hg, hg⟩ | (simp; done) | (simp_all only [Bool.not_false, Bool.not_true, and_self]; done), c65 ..⟩) rfl rfl ?_)
     refine sv40 ?_
     refine scs ?_
     (apply hK
      exact ⟨3 - (i + 1), _, by omega, Ent.wk [0], i + 1, by omega, rfl, hinv, rfl⟩)
  ·have hge' : 3 = i := by omega
   subst hge'
   have hdi : decide (((3 : Nat) : Int) < ((3 : Nat) : Int)) = false := by simp
   have hd3 : decide (((3 : Nat) : Int) < 3) = false := rfl
   rw [List.drop_of_length_le (by omega), List.all_nil] at hinv
   refine sv24 ?_
   apply hK
   rw [hinv]
   refine evl ?_
   refine Fin.nt results28 [] ?_ ?_ ?_ <;> try trivial
def sGuards (j : Job) (p : Pin) : Bool := (j.Op.Kind == 2 && (within j.Pc 2 3 && effPin p)) || ((j.Op.Kind == 7 && (within j.Pc 1 2 && effPin p)) || (j.Op.Kind == 3 && j.Pc == 3))
def sgGo : List Job -> List Pin -> List Int
 | j :: J, p :: Ps => if sGuards j p then j.H :: sgGo J Ps else sgGo J Ps
 | _, _ => []
theorem sgGo_nil (Ps : List Pin) : sgGo [] Ps = [] := by cases Ps <;> rfl
theorem sgGo_len : ∀ (J : List Job) (Ps : List Pin), (sgGo J Ps).length <= J.length
 | [], _ => by simp [sgGo]
 | j :: J, [] => by simp [sgGo]
 | j :: J, p :: Ps => by
  have := sgGo_len J Ps
  rw [sgGo]
  split <;> simp <;> omega
def sgAll (s : Shelf) : List Int := bif shelfOk s then sgGo s.Jobs s.Base.Clock.Pins else []
def sguardedM (s : Shelf) : List Int := ascN (sgAll s)
theorem sgAll_len (s : Shelf) : (sgAll s).length <= 3 := by
 unfold sgAll
 cases h : shelfOk s with
 | false => simp
 | true =>
  have := sgGo_len s.Jobs s.Base.Clock.Pins
  have := (shelfOk_parts h).2.2.1
  simp only [cond_true]; omega
theorem sguardedM_len (s : Shelf) : (sguardedM s).length <= 3 := Nat.le_trans (ascN_len _) (sgAll_len s)
theorem within23 (x : Int) : within x 2 3 = (x == 2 || x == 3) := by
 rw [within, Bool.eq_iff_iff]
 simp only [decide_eq_true_eq, Bool.or_eq_true, beq_iff_eq]
 omega
theorem within12 (x : Int) : within x 1 2 = (x == 1 || x == 2) := by
 rw [within, Bool.eq_iff_iff]
 simp only [decide_eq_true_eq, Bool.or_eq_true, beq_iff_eq]
 omega
theorem job_idle {j : Job} (h : jobOk j = true) (hb : j.Busy = false) : j = zeroJob := by
 rw [jobOk, hb] at h
 simpa using h
def nameJ (j : Job) : List Int := if (j.Op.Kind == 1 && within j.Pc 1 2) = true then [j.H] else if (j.Op.Kind == 1 && j.Pc == 3) = true then [j.Old] else []
def nmGo : List Job -> List Int
 | [] => []
 | j :: J => nameJ j ++ nmGo J
theorem nameJ_len (j : Job) : (nameJ j).length <= 1 := by
 unfold nameJ
 repeat' split
 all_goals simp
theorem nmGo_len : ∀ J : List Job, (nmGo J).length <= J.length
 | [] => Nat.le_refl _
 | j :: J => by
  have h1 := nmGo_len J
  have h2 := nameJ_len j
  rw [nmGo, List.length_append, List.length_cons]; omega
def nmAll (s : Shelf) : List Int := bif shelfOk s then s.Cells ++ nmGo s.Jobs else []
def namedM (s : Shelf) : List Int := ascN (nmAll s)
theorem nmAll_len (s : Shelf) : (nmAll s).length <= 5 := by
 unfold nmAll
 cases h : shelfOk s with
 | false => simp
 | true =>
  have := nmGo_len s.Jobs
  have := (shelfOk_parts h).2.2.1
  have := (shelfOk_parts h).2.1
  simp only [cond_true, List.length_append]; omega
theorem namedM_len (s : Shelf) : (namedM s).length <= 5 := Nat.le_trans (ascN_len _) (nmAll_len s)
def nmGo2 : List Job -> List Int
 | [] => []
 | j :: J => nz (nameJ j) ++ nmGo2 J
theorem nz_nm : ∀ J : List Job, nz (nmGo J) = nmGo2 J
 | [] => rfl
 | j :: J => by rw [nmGo, nz_app, nz_nm J, nmGo2]
theorem nz_drop_cons {l : List Int} {i : Nat} (h : i < l.length) : nz (l.drop i) = (if l[i] = 0 then [] else [l[i]]) ++ nz (l.drop (i + 1)) := by
 rw [List.drop_eq_getElem_cons h, nz_cons]
 split <;> rfl
theorem nm_split {C : List Int} {J : List Job} : putsN [] (nz (C ++ nmGo J)) = putsN (putsN [] (nz C)) (nmGo2 J) := by
 rw [nz_app, putsN_app, nz_nm]
theorem putsN_one (o : List Int) (x : Int) : putsN o [x] = putN o x := rfl
theorem nz_one (x : Int) : nz [x] = if x = 0 then [] else [x] := by
 rw [nz_cons]
 split <;> rfl
theorem c17 (s : Shelf) (hz : sizShelf s <= 1048576) : Ctr prog 17 [.agg ((encShelf s).map .dat)] [] (.one (.own 0)) [.vec 1 true ((namedM s).map encI)] := by
 have hmx : maxLen = 9223372036854775807 := rfl
 have hct := c34 s hz
 have hml := nmAll_len s
 have hca := c46 (nmAll s) (by omega)
 simp only [encShelf, List.map_cons, List.map_nil] at hct ⊢
 refine Ctr.bd mixed func17 rfl ?_
 refine evl ?_
 refine scs ?_
 refine ck e34 (hct) rfl ?_
 refine sv11 ?_
 refine scs ?_
 constructor <;> intro hq
 ·have h0 : shelfOk s = false := by simpa using hq
  rw [namedM, nmAll, h0, cond_false, show ascN [] = [] from rfl]
  refine Fin.ent (Ent.emp (t := 2) (sz := 1) rfl) ?_
  refine evl ?_
  refine Fin.nt results17 [1] ?_ ?_ ?_ <;> try trivial
  all_goals exact entd
 have h0 : shelfOk s = true := by simpa using hq
 clear hq
 obtain ⟨_, h2, h3, _⟩ := shelfOk_parts h0
 unfold namedM
 rw [nmAll, h0, cond_true] at hml hca ⊢
 refine scs ?_
 refine ck e44 (c44 s.Cells (by omega)) rfl ?_
 refine sv11 ?_
 refine scs ?_
 refine LoopK_intro (fun zn zs => ∃ (i : Nat) (o : List Int), i <= s.Jobs.length /\ zn = s.Jobs.length - i /\ (s.Cells ++ nmGo s.Jobs = o ++ nmGo (s.Jobs.drop i)) /\ zs = mkSt [(15, .one (.dat (.int .i64 i))), (14, .one (.dat (.int .i64 (s.Jobs.length)))), (13, .one (.dat (.sl 21 (s.Jobs.map encJob)))), (1, .one (.ptr (.own 0 0 0))), (3, .one (.own 1))] [.box [.dat (.sl 1 (s.Base.Mem.Heap.Bytes.map encI)), .dat (.sl 1 (s.Base.Mem.Heap.Class.map encI)), .dat (.sl 1 (s.Base.Mem.Lists.Global.map encSList)), .dat (.sl 1 (s.Base.Mem.Lists.Own.map encSList)), .dat (.int .i64 s.Base.Clock.Epoch), .dat (.sl 4 (s.Base.Clock.Pins.map encPin)), .dat (.sl 1 (s.Base.Limbo.map encLList)), .dat (.sl 1 (s.Base.Haz.map encI)), .dat (.sl 1 (s.Cells.map encI)), .dat (.sl 21 (s.Jobs.map encJob)), .dat (.sl 1 (s.Todo.map encQueue)), .dat (.sl 7 (s.Log.map encEv)), .dat (.int .i64 s.Serial)], .vec 1 true (o.map encI)]) (s.Jobs.length) _
  (Ent.wk [0, 1]) ⟨0, s.Cells, by omega, by omega, rfl, rfl⟩ ?_
 rintro zn zs ⟨i, o, hi, rfl, hinv, rfl⟩ K hK
 rcases Nat.lt_or_ge i (s.Jobs.length) with hlt | hge
 ·have hdi : decide ((i : Int) < ((s.Jobs.length : Nat) : Int)) = true := decide_eq_true (by omega)
  have hw := wrap_succ hlt (show s.Jobs.length <= maxLen by omega)
  obtain ⟨j, hji⟩ : ∃ j, s.Jobs[i] = j := ⟨_, rfl⟩
  rw [List.drop_eq_getElem_cons hlt, hji, nmGo] at hinv
  have hol : o.length <= 5 := by
   have := congrArg List.length hinv
   rw [List.length_append, List.length_append] at this
   rw [List.length_append] at hml
   omega
  have hgo : ∀ x, nameJ j = x -> s.Cells ++ nmGo s.Jobs = (o ++ x) ++ nmGo (s.Jobs.drop (i + 1)) := fun x hx => by rw [hinv, hx, List.append_assoc]
  simp (maxSteps := 2000000) only [go_sem, seval, hdi, hw, getD_map hlt, hji, encJob, List.append_eq]
  refine scs ?_
  first | refine CCallK_intro e45 (fun hg => ⟨by first | exact trivial | exact hg | exact ⟨hg, hg⟩ | (simp; done) | (simp_all only [Bool.not_false, Bool.not_true, and_self]; done), c45 ..⟩) rfl rfl ?_ | refine Or.inl (CCallK_intro e45 (fun hg => ⟨by first | exact trivial | exact hg | exact ⟨hg, hg⟩ | (simp; done) | (simp_all only [Bool.not_false, Bool.not_true, and_self]; done), c45 ..⟩) rfl rfl ?_)
  simp (maxSteps := 2000000) only [go_sem, seval, hdi, hw, getD_map hlt, hji, encJob, List.append_eq]
  refine scs ?_
  constructor <;> intro h1
  ·have hc : nameJ j = [j.H] := by
    rw [nameJ, if_pos]; revert h1; cases j.Op.Kind == 1 <;> simp
   refine scs ?_
   (apply hK
    exact ⟨s.Jobs.length - (i + 1), _, by omega, Ent.wk [0, 4], i + 1, (o ++ [j.H]), by omega, rfl, hgo _ hc, rfl⟩)
  ·have hn : ¬ (j.Op.Kind == 1 && within j.Pc 1 2) = true := by
    revert h1; cases j.Op.Kind == 1 <;> simp
   refine scs ?_
   refine ⟨fun h3' => ?_, fun h3' => ?_⟩
   ·have hc : nameJ j = [j.Old] := by
     rw [nameJ, if_neg hn, if_pos]; revert h3'; cases j.Op.Kind == 1 <;> simp
    refine scs ?_
    (apply hK
     exact ⟨s.Jobs.length - (i + 1), _, by omega, Ent.wk [0, 4], i + 1, (o ++ [j.Old]), by omega, rfl, hgo _ hc, rfl⟩)
   ·have hc : nameJ j = [] := by
     rw [nameJ, if_neg hn, if_neg]; revert h3'; cases j.Op.Kind == 1 <;> simp
    (apply hK
     exact ⟨s.Jobs.length - (i + 1), _, by omega, Ent.wk [0, 1], i + 1, o, by omega, rfl, by rw [hgo _ hc, List.append_nil], rfl⟩)
 ·have hge' : s.Jobs.length = i := by omega
  subst hge'
  have hdi : decide (((s.Jobs.length : Nat) : Int) < ((s.Jobs.length : Nat) : Int)) = false := by simp
  have hoe : s.Cells ++ nmGo s.Jobs = o := by rw [hinv, List.drop_length, nmGo, List.append_nil]
  clear hinv
  refine sv3 ?_
  apply hK
  rw [hoe] at hca ⊢
  refine evl ?_
  refine scs ?_
  refine ck e46 (hca) rfl ?_
  refine evl ?_
  refine Fin.nt results17 [2] ?_ ?_ ?_ <;> try trivial
  all_goals exact entd
theorem c16 (s : Shelf) (hz : sizShelf s <= 1048576) : Ctr prog 16 [.agg ((encShelf s).map .dat)] [] (.one (.own 0)) [.vec 1 true ((namedM s).map encI)] := by
 have hmx : maxLen = 9223372036854775807 := rfl
 have hct := c28 s hz
 simp only [encShelf, List.map_cons, List.map_nil] at hct ⊢
 cases h0 : shelfOk s with
 | false =>
  rw [h0] at hct
  rw [namedM, nmAll, h0, cond_false, show ascN [] = [] from rfl]
  refine Ctr.bd mixed func16 rfl ?_
  refine evl ?_
  refine scs ?_
  refine ck e28 (hct) rfl ?_
  refine evl ?_
  refine LoopK_intro (fun zn zs => ∃ i : Nat, i <= 0 /\ zn = 0 - i /\ zs = mkSt [(5, .one (.dat (.int .i64 i))), (1, .one (.ptr (.own 0 0 0))), (3, .one (.own 1)), (4, .one (.dat (.bool false)))] [.box [.dat (.sl 1 (s.Base.Mem.Heap.Bytes.map encI)), .dat (.sl 1 (s.Base.Mem.Heap.Class.map encI)), .dat (.sl 1 (s.Base.Mem.Lists.Global.map encSList)), .dat (.sl 1 (s.Base.Mem.Lists.Own.map encSList)), .dat (.int .i64 s.Base.Clock.Epoch), .dat (.sl 4 (s.Base.Clock.Pins.map encPin)), .dat (.sl 1 (s.Base.Limbo.map encLList)), .dat (.sl 1 (s.Base.Haz.map encI)), .dat (.sl 1 (s.Cells.map encI)), .dat (.sl 21 (s.Jobs.map encJob)), .dat (.sl 1 (s.Todo.map encQueue)), .dat (.sl 7 (s.Log.map encEv)), .dat (.int .i64 s.Serial)], .vec 1 true []]) (0) _
   (Ent.wk [0, 1]) ⟨0, by omega, by omega, rfl⟩ ?_
  rintro zn zs ⟨i, hi, rfl, rfl⟩ K hK
  rcases Nat.lt_or_ge i (0) with hlt | hge
  ·have hdi : decide ((i : Int) < ((0 : Nat) : Int)) = true := decide_eq_true (by omega)
   have hw := wrap_succ hlt (by decide)
   exact absurd hlt (Nat.not_lt_zero _)
  ·have hge' : 0 = i := by omega
   subst hge'
   have hdi : decide (((0 : Nat) : Int) < ((0 : Nat) : Int)) = false := by simp
   have hd0 : decide (((0 : Nat) : Int) < 2) = true := rfl
   refine sv5 ?_
   apply hK
   refine evl ?_
   refine LoopK_intro (fun zn zs => ∃ k : Nat, k <= 0 /\ zn = 0 - k /\ zs = mkSt [(6, .one (.dat (.int .i64 k))), (1, .one (.ptr (.own 0 0 0))), (3, .one (.own 1)), (4, .one (.dat (.bool false)))] [.box [.dat (.sl 1 (s.Base.Mem.Heap.Bytes.map encI)), .dat (.sl 1 (s.Base.Mem.Heap.Class.map encI)), .dat (.sl 1 (s.Base.Mem.Lists.Global.map encSList)), .dat (.sl 1 (s.Base.Mem.Lists.Own.map encSList)), .dat (.int .i64 s.Base.Clock.Epoch), .dat (.sl 4 (s.Base.Clock.Pins.map encPin)), .dat (.sl 1 (s.Base.Limbo.map encLList)), .dat (.sl 1 (s.Base.Haz.map encI)), .dat (.sl 1 (s.Cells.map encI)), .dat (.sl 21 (s.Jobs.map encJob)), .dat (.sl 1 (s.Todo.map encQueue)), .dat (.sl 7 (s.Log.map encEv)), .dat (.int .i64 s.Serial)], .vec 1 true []]) (0) _
    (Ent.wk [0, 1]) ⟨0, by omega, by omega, rfl⟩ ?_
   rintro zn zs ⟨k, hi2, rfl, rfl⟩ K2 hK2
   rcases Nat.lt_or_ge k (0) with hlt2 | hge2
   ·have hdi2 : decide ((k : Int) < ((0 : Nat) : Int)) = true := decide_eq_true (by omega)
    have hw2 := wrap_succ hlt2 (by decide)
    exact absurd hlt2 (Nat.not_lt_zero _)
   ·have hge2' : 0 = k := by omega
    subst hge2'
    have hdi2 : decide (((0 : Nat) : Int) < ((0 : Nat) : Int)) = false := by simp
    have hd3 : decide (((0 : Nat) : Int) < 3) = true := rfl
    refine sv24 ?_
    apply hK2
    refine evl ?_
    refine Fin.nt results16 [1] ?_ ?_ ?_ <;> try trivial
    all_goals exact entd
 | true =>
 obtain ⟨_, hc2, h3, _⟩ := shelfOk_parts h0
 rw [namedM, nmAll, h0, cond_true, ascN_nz, nm_split]
 rw [h0] at hct
 refine Ctr.bd mixed func16 rfl ?_
 refine evl ?_
 refine scs ?_
 refine ck e28 (hct) rfl ?_
 refine evl ?_
 refine LoopK_intro (fun zn zs => ∃ (i : Nat) (o : List Int), i <= 2 /\ zn = 2 - i /\ (putsN [] (nz s.Cells) = putsN o (nz (s.Cells.drop i)) /\ o.length <= i) /\ zs = mkSt [(5, .one (.dat (.int .i64 i))), (1, .one (.ptr (.own 0 0 0))), (3, .one (.own 1)), (4, .one (.dat (.bool true)))] [.box [.dat (.sl 1 (s.Base.Mem.Heap.Bytes.map encI)), .dat (.sl 1 (s.Base.Mem.Heap.Class.map encI)), .dat (.sl 1 (s.Base.Mem.Lists.Global.map encSList)), .dat (.sl 1 (s.Base.Mem.Lists.Own.map encSList)), .dat (.int .i64 s.Base.Clock.Epoch), .dat (.sl 4 (s.Base.Clock.Pins.map encPin)), .dat (.sl 1 (s.Base.Limbo.map encLList)), .dat (.sl 1 (s.Base.Haz.map encI)), .dat (.sl 1 (s.Cells.map encI)), .dat (.sl 21 (s.Jobs.map encJob)), .dat (.sl 1 (s.Todo.map encQueue)), .dat (.sl 7 (s.Log.map encEv)), .dat (.int .i64 s.Serial)], .vec 1 true (o.map encI)]) (2) _
  (Ent.wk [0, 1]) ⟨0, [], by omega, by omega, ⟨rfl, Nat.le_refl _⟩, rfl⟩ ?_
 rintro zn zs ⟨i, o, hi, rfl, hinv, rfl⟩ K hK
 rcases Nat.lt_or_ge i (2) with hlt | hge
 ·have hdi : decide ((i : Int) < ((2 : Nat) : Int)) = true := decide_eq_true (by omega)
  have hw := wrap_succ hlt (show 2 <= maxLen by decide)
  obtain ⟨hv1, hv2⟩ := hinv
  have hd3 : decide ((i : Int) < 2) = true := decide_eq_true (by omega)
  have hgi : i < s.Cells.length := by omega
  rw [nz_drop_cons hgi] at hv1
  obtain ⟨x, hx⟩ : ∃ x, s.Cells[i] = x := ⟨_, rfl⟩
  rw [hx] at hv1
  have hpl := putN_len o x
  simp (maxSteps := 2000000) only [go_sem, seval, hd3, hw, getD_map hgi, hx, encI]
  refine scs ?_
  constructor <;> intro hq
  ·have hq : ¬ x = 0 := by simpa [bne] using hq
   rw [if_neg hq, putsN_app, putsN_one] at hv1
   refine scs ?_
   refine CallK_os [1] e43 (by simp [osOk, St.obj, find]) (c43 o (by omega) x) rfl ?_
   simp (maxSteps := 2000000) only [go_sem, seval, hd3, hw, getD_map hgi, hx, encI]
   refine scs ?_
   (apply hK
    exact ⟨2 - (i + 1), _, by omega, Ent.wk [0, 2], i + 1, (putN o x), by omega, rfl, ⟨hv1, by omega⟩, rfl⟩)
  ·have hq : x = 0 := by simpa [bne] using hq
   rw [if_pos hq, List.nil_append] at hv1
   refine scs ?_
   (apply hK
    exact ⟨2 - (i + 1), _, by omega, Ent.wk [0, 1], i + 1, o, by omega, rfl, ⟨hv1, by omega⟩, rfl⟩)
 ·have hge' : 2 = i := by omega
  subst hge'
  have hdi : decide (((2 : Nat) : Int) < ((2 : Nat) : Int)) = false := by simp
  have hd3 : decide (((2 : Nat) : Int) < 2) = false := rfl
  obtain ⟨hv1, hv2⟩ := hinv
  rw [List.drop_of_length_le (by omega)] at hv1
  have hv1 : putsN [] (nz s.Cells) = o := hv1
  refine sv24 ?_
  apply hK
  rw [hv1]
  clear hv1
  refine evl ?_
  refine LoopK_intro (fun zn zs => ∃ (k : Nat) (p : List Int), k <= 3 /\ zn = 3 - k /\ (putsN o (nmGo2 s.Jobs) = putsN p (nmGo2 (s.Jobs.drop k)) /\ p.length <= 2 + k) /\ zs = mkSt [(6, .one (.dat (.int .i64 k))), (1, .one (.ptr (.own 0 0 0))), (3, .one (.own 1)), (4, .one (.dat (.bool true)))] [.box [.dat (.sl 1 (s.Base.Mem.Heap.Bytes.map encI)), .dat (.sl 1 (s.Base.Mem.Heap.Class.map encI)), .dat (.sl 1 (s.Base.Mem.Lists.Global.map encSList)), .dat (.sl 1 (s.Base.Mem.Lists.Own.map encSList)), .dat (.int .i64 s.Base.Clock.Epoch), .dat (.sl 4 (s.Base.Clock.Pins.map encPin)), .dat (.sl 1 (s.Base.Limbo.map encLList)), .dat (.sl 1 (s.Base.Haz.map encI)), .dat (.sl 1 (s.Cells.map encI)), .dat (.sl 21 (s.Jobs.map encJob)), .dat (.sl 1 (s.Todo.map encQueue)), .dat (.sl 7 (s.Log.map encEv)), .dat (.int .i64 s.Serial)], .vec 1 true (p.map encI)]) (3) _
   (Ent.wk [0, 1]) ⟨0, o, by omega, by omega, ⟨rfl, by omega⟩, rfl⟩ ?_
  rintro zn zs ⟨k, p, hi2, rfl, hinv2, rfl⟩ K2 hK2
  rcases Nat.lt_or_ge k (3) with hlt2 | hge2
  ·have hdi2 : decide ((k : Int) < ((3 : Nat) : Int)) = true := decide_eq_true (by omega)
   have hw2 := wrap_succ hlt2 (show 3 <= maxLen by decide)
   obtain ⟨hv1, hv2⟩ := hinv2
   have hd3 : decide ((k : Int) < 3) = true := decide_eq_true (by omega)
   have hgi : k < s.Jobs.length := by omega
   obtain ⟨j, hji⟩ : ∃ j, s.Jobs[k] = j := ⟨_, rfl⟩
   rw [List.drop_eq_getElem_cons hgi, hji, nmGo2, putsN_app] at hv1
   have hp1 := putN_len p j.H
   have hp2 := putN_len p j.Old
   have hsk : ∀ x, nz (nameJ j) = x -> putsN o (nmGo2 s.Jobs) = putsN (putsN p x) (nmGo2 (s.Jobs.drop (k + 1))) := fun x hx => by rw [hv1, hx]
   clear hv1
   simp (maxSteps := 2000000) only [go_sem, seval, hd3, hw2, getD_map hgi, hji, encJob, List.append_eq]
   refine scs ?_
   constructor <;> intro hk
   ·have hk : j.Op.Kind ≠ 1 := by simpa [bne] using hk
    have hn : nz (nameJ j) = [] := by
     rw [nameJ, show (j.Op.Kind == 1) = false by simpa using hk]; rfl
    (apply hK2
     exact ⟨3 - (k + 1), _, by omega, Ent.wk [0, 1], k + 1, p, by omega, rfl, ⟨hsk _ hn, by omega⟩, rfl⟩)
   have hk : (j.Op.Kind == 1) = true := by simpa [bne] using hk
   have hnj : nameJ j = if within j.Pc 1 2 = true then [j.H] else if (j.Pc == 3) = true then [j.Old] else [] := by rw [nameJ, hk, Bool.true_and, Bool.true_and]
   have hw12 : within j.Pc 1 2 = (j.Pc == 1 || j.Pc == 2) := within12 _
   rcases h12 : (j.Pc == 1 || j.Pc == 2) with _ | _
   ·rw [h12] at hw12
    rw [hw12, if_neg (by simp)] at hnj
    refine scs ?_
    intro ha
    refine scs ?_
    constructor <;> intro hb
    ·have hc : (j.Pc == 3) = true /\ j.Old ≠ 0 := by
      revert hb; cases j.Pc == 3 <;> simp [bne]
     rw [if_pos hc.1] at hnj
     have hs := hsk _ (by rw [hnj, nz_one, if_neg hc.2])
     rw [putsN_one] at hs
     refine scs ?_
     refine CallK_os [1] e43 (by simp [osOk, St.obj, find]) (c43 p (by omega) j.Old) rfl ?_
     simp (maxSteps := 2000000) only [go_sem, seval, hd3, hw2, getD_map hgi, hji, encJob, List.append_eq]
     refine scs ?_
     (apply hK2
      exact ⟨3 - (k + 1), _, by omega, Ent.wk [0, 3], k + 1, (putN p j.Old), by omega, rfl, ⟨hs, by omega⟩, rfl⟩)
    ·have hs : nz (nameJ j) = [] := by
      rw [hnj]
      split
      ·rename_i hp
       rw [nz_one, if_pos]
       revert hb; rw [hp]; simp [bne]
      ·rfl
     (apply hK2
      exact ⟨3 - (k + 1), _, by omega, Ent.wk [0, 1], k + 1, p, by omega, rfl, ⟨hsk _ hs, by omega⟩, rfl⟩)
   ·rw [h12] at hw12
    rw [hw12, if_pos rfl] at hnj
    have hn3 : (j.Pc == 3) = false := by
     revert h12
     simp only [Bool.or_eq_true, beq_iff_eq, beq_eq_false_iff_ne]
     omega
    refine scs ?_
    constructor <;> intro ha
    ·have hc : j.H ≠ 0 := by
      revert ha; cases (bif j.Pc == 1 then true else j.Pc == 2) <;> simp [bne]
     have hs := hsk _ (by rw [hnj, nz_one, if_neg hc])
     rw [putsN_one] at hs
     refine scs ?_
     refine CallK_os [1] e43 (by simp [osOk, St.obj, find]) (c43 p (by omega) j.H) rfl ?_
     simp (maxSteps := 2000000) only [go_sem, seval, hd3, hw2, getD_map hgi, hji, encJob, List.append_eq, hn3]
     refine scs ?_
     (apply hK2
      exact ⟨3 - (k + 1), _, by omega, Ent.wk [0, 3], k + 1, (putN p j.H), by omega, rfl, ⟨hs, by omega⟩, rfl⟩)
    ·have hs : nz (nameJ j) = [] := by
      rw [hnj, nz_one, if_pos]
      revert ha h12; cases j.Pc == 1 <;> cases j.Pc == 2 <;> simp [bne]
     refine scs ?_
     intro hb
     (apply hK2
      exact ⟨3 - (k + 1), _, by omega, Ent.wk [0, 1], k + 1, p, by omega, rfl, ⟨hsk _ hs, by omega⟩, rfl⟩)
  ·have hge2' : 3 = k := by omega
   subst hge2'
   have hdi2 : decide (((3 : Nat) : Int) < ((3 : Nat) : Int)) = false := by simp
   have hd3 : decide (((3 : Nat) : Int) < 3) = false := rfl
   obtain ⟨hv1, hv2⟩ := hinv2
   rw [List.drop_of_length_le (by omega)] at hv1
   have hv1 : putsN o (nmGo2 s.Jobs) = p := hv1
   refine sv24 ?_
   apply hK2
   rw [hv1]
   refine evl ?_
   refine Fin.nt results16 [1] ?_ ?_ ?_ <;> try trivial
   all_goals exact entd
end Go.Proofs.YtebinioiggfplaaGreat.Mod
namespace Go.Proofs.YtebinioiggfplaaGreat.fnExactNamed
open Go.Proofs.Tryz Go.Abs Go.Proofs.YtebinioiggfplaaGreat.Ty Go.ChangeShapes Go.WideShapes Go.ChangeAt Go.RowKit Go.Proofs.YtebinioiggfplaaGreat.Mod
set_option linter.unusedSimpArgs false
set_option linter.unusedVariables false
set_option maxHeartbeats 8000000
set_option maxRecDepth 100000
theorem c4 (s : Shelf) (hks : s.lok) : Ctr prog 4 [.agg ((encShelf s).map .dat)] [] (.one (.dat (.bool true))) [] := by
 simp only [encShelf, List.map_cons, List.map_nil]
 refine Ctr.bd mixed func4 rfl ?_
 refine sv11 ?_
 repeat ((with_reducible show _ = true /\ _); refine ⟨by kernel_rfl, ?_⟩)
 refine CallK_pure e7 (c7 s hks 1048576 (by decide) (by decide)) rfl ?_
 refine sv11 ?_
 repeat ((with_reducible show _ = true /\ _); refine ⟨by kernel_rfl, ?_⟩)
 constructor <;> intro h
 ·refine Fin.nt results4 [] ?_ ?_ ?_ <;> try trivial
 obtain ⟨hss, hzs, hgs, hhs⟩ := szL_le (by decide) h
 clear h
 repeat ((with_reducible show _ = true /\ _); refine ⟨by kernel_rfl, ?_⟩)
 have hoks := Shelf.sok_of hss
 have hcns := mcShelf_le s
 have hmx : maxLen = 9223372036854775807 := rfl
 have hr := namedM_len s
 refine ck e9 (c9 s hss) rfl ?_
 refine sv11 ?_
 repeat ((with_reducible show _ = true /\ _); refine ⟨by kernel_rfl, ?_⟩)
 refine ck e16 (c16 s hss) rfl ?_
 refine sv11 ?_
 repeat ((with_reducible show _ = true /\ _); refine ⟨by kernel_rfl, ?_⟩)
 refine ck e9 (c9 s hss) rfl ?_
 refine sv11 ?_
 repeat ((with_reducible show _ = true /\ _); refine ⟨by kernel_rfl, ?_⟩)
 refine ck e17 (c17 s hss) rfl ?_
 refine sv11 ?_
 repeat ((with_reducible show _ = true /\ _); refine ⟨by kernel_rfl, ?_⟩)
 refine ck e11 (c11 (namedM s) (namedM s) (by omega) (by omega)) rfl ?_
 refine sv11 ?_
 repeat ((with_reducible show _ = true /\ _); refine ⟨by kernel_rfl, ?_⟩)
 refine ck e9 (c9 s hss) rfl ?_
 refine sv11 ?_
 repeat ((with_reducible show _ = true /\ _); refine ⟨by kernel_rfl, ?_⟩)
 refine ck e12 (c12 s s hss hss) rfl ?_
 refine sv11 ?_
 repeat ((with_reducible show _ = true /\ _); refine ⟨by kernel_rfl, ?_⟩)
 refine CallK_os [13, 14, 15, 16, 17, 18, 19, 20, 21, 22, 23] e13 (by simp [osOk, St.obj, find]) (c13 s hoks 1 (by omega) (by omega)) rfl ?_
 refine sv11 ?_
 repeat ((with_reducible show _ = true /\ _); refine ⟨by kernel_rfl, ?_⟩)
 have hkk : decide ((1 + (mcShelf s : Int)) < 0) = false := by simp only [decide_eq_false_iff_not]; omega
 refine sv45 ?_
 repeat ((with_reducible show _ = true /\ _); refine ⟨by kernel_rfl, ?_⟩)
 refine ck e11 (c11 (namedM s) (namedM s) (by omega) (by omega)) rfl ?_
 refine sv45 ?_
 repeat ((with_reducible show _ = true /\ _); refine ⟨by kernel_rfl, ?_⟩)
 refine CallK_os [25] e14 (by simp [osOk, St.obj, find]) (c14 (namedM s) 1 (by omega) (by omega)) rfl ?_
 refine sv45 ?_
 repeat ((with_reducible show _ = true /\ _); refine ⟨by kernel_rfl, ?_⟩)
 refine ck e15 (c15 ((namedM s)).length 1 (by omega) (by omega)) rfl ?_
 refine sv45 ?_
 repeat ((with_reducible show _ = true /\ _); refine ⟨by kernel_rfl, ?_⟩)
 have hq1 : decide ((1 + 1 * (((namedM s)).length : Int)) < 0) = false := by simp only [decide_eq_false_iff_not]; omega
 refine sv46 ?_
 repeat ((with_reducible show _ = true /\ _); refine ⟨by kernel_rfl, ?_⟩)
 refine ck e9 (c9 s hss) rfl ?_
 refine sv46 ?_
 repeat ((with_reducible show _ = true /\ _); refine ⟨by kernel_rfl, ?_⟩)
 refine ck e17 (c17 s hss) rfl ?_
 refine sv46 ?_
 repeat ((with_reducible show _ = true /\ _); refine ⟨by kernel_rfl, ?_⟩)
 refine ck e11 (c11 (namedM s) (namedM s) (by omega) (by omega)) rfl ?_
 refine sv46 ?_
 repeat ((with_reducible show _ = true /\ _); refine ⟨by kernel_rfl, ?_⟩)
 refine ck e15 (c15 ((namedM s)).length 1 (by omega) (by omega)) rfl ?_
 refine sv46 ?_
 repeat ((with_reducible show _ = true /\ _); refine ⟨by kernel_rfl, ?_⟩)
 refine Fin.nt results4 [] ?_ ?_ ?_ <;> try trivial
theorem law (dss : List (List D)) (h : WTAll prog 8 f4.params.toList dss) : Ctr prog 4 (argAVs prog f4.params.toList dss) [] (.one (.dat (.bool true))) [] := by
 rw [params4] at *
 simp only [WTAll, List.toList_toArray] at h
 obtain ⟨_, _, rfl, h0, rfl⟩ := h
 obtain ⟨x0, rfl, w0, k0⟩ := decShelf _ _ h0
 simp only [argAVs, argAV, List.toList_toArray, underlying40, List.headD_cons]
 exact c4 x0 k0

theorem own : ownKnob prog.godebug = none := by kernel_rfl

set_option maxRecDepth 100000 in
theorem lifted (os : Os) (started : os.Started) (H : Type) (enc : TypeId × Value -> H) :
  ReturnsInHanded {} Tryz.checked os 4 .any (Rows.fnExactNamedSpec.pre6 enc prog f4 Rows.fnExactNamedRow.domain false) (Rows.fnExactNamedSpec.post enc prog f4 false true false false) := by
 refine returnsInHanded_of_change (C := Tryz.checked) own started (by kernel_rfl) func4
  (ChangeSpec.witness6 (enc := enc) (C := Tryz.checked) false ⟨#[], #[.agg #[.slice none 0 0, .slice none 0 0, .slice none 0 0, .slice none 0 0, .int .i64 0, .slice none 0 0, .slice none 0 0, .slice none 0 0, .slice none 0 0, .slice none 0 0, .slice none 0 0, .slice none 0 0, .int .i64 0]], []⟩ 8 (by kernel_rfl) (by kernel_rfl) (by kernel_rfl) (by kernel_rfl)) ?_
 intro W base args ds gs before hval0 hW hcnd _
 have hW' := hW
 obtain ⟨p, q, hA0, hV, rfl, hfz, hnd⟩ := hW'
 have hA : DataW.TrodAll enc prog W 0 (fun _ => true) true f4.params.toList args.toList ds p := hA0
 obtain ⟨dss, h1, h2⟩ := args_rep (n := 8) (by kernel_rfl) (fun j t v hj hv => hval0 j t v (by simpa using hj) (by simpa using hv)) hA
 have hs : Rows.fnExactNamedSpec.fn H (ds ++ gs) = { results := [.lit (.bool true)], args := ds, vars := [] } := by
  obtain ⟨rfl, rfl⟩ := trodVars_none hV
  rw [params4] at hA
  obtain ⟨v0, vs0, d0, ds0, p0, q0, _, rfl, _, _, r0⟩ := trodAll_cons hA
  obtain ⟨_, rfl, _⟩ := trodAll_nil r0
  rfl
 have hc := law_calls (law dss h1) h2
 rw [Array.toArray_toList] at hc
 refine hc.mono fun e W' ⟨he, hb⟩ => ?_
 subst he
 exact ⟨_, rfl, law_post (by kernel_rfl) (by kernel_rfl) rfl hW hs rfl underlying4 hb⟩

theorem closed : joinedFacts prog 4 f4 Rows.fnExactNamedSpec Rows.fnExactNamedRow = true := by
 unfold joinedFacts
 simp only [Bool.and_eq_true, Whole.laidOut, Whole.rowed, Whole.stops, Whole.knobs, Whole.keys, Whole.heard, Whole.enter, Whole.lifts, Whole.make, true_and, and_true]
 repeat' (refine And.intro ?_ ?_)
 all_goals (as_aux_lemma => kernel_rfl)

theorem over : Rows.fnExactNamedRow.holds Tryz.pinned (OpenSpec.ofChange Rows.fnExactNamedSpec) :=
 OpenClaim.holds_of_wide 4 f4 rfl rfl rfl rfl rfl rfl rfl ⟨rfl, rfl, rfl, rfl, rfl⟩ rfl rfl rfl rfl rfl (by kernel_rfl) func4 closed
  (of_decide_eq_true (by kernel_rfl)) (by unfold Func.isWrapper; first | (rw [if_pos (by decide +kernel)]; kernel_rfl) | (rw [if_neg (by decide +kernel)]; exact ⟨rfl, rfl⟩))
  (fun os started H enc _ => lifted os started H enc)

theorem proved : Rows.FnExactNamedSaid :=
 over
end Go.Proofs.YtebinioiggfplaaGreat.fnExactNamed
