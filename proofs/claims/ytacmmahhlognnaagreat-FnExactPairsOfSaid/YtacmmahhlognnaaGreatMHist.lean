/- Contracts: Hist. -/
import Derived.Test.YtacmmahhlognnaaGreatRows
import Derived.Test.YtacmmahhlognnaaGreatTy
import Derived.Test.YtacmmahhlognnaaGreatAbsTac
import Derived.Test.YtacmmahhlognnaaGreatAbsData
import Derived.Test.YtacmmahhlognnaaGreatMMap
import Derived.Test.YtacmmahhlognnaaGreatMSl2
import Derived.Test.YtacmmahhlognnaaGreatMFam2
import Derived.WalkKit
import Derived.ProofKit
import Derived.OpenShut
namespace Go.Proofs.YtacmmahhlognnaaGreat.Mod
open Go.Abs Go.Proofs.YtacmmahhlognnaaGreat.Ty Go.ChangeShapes Go.WideShapes Go.ChangeAt Go.RowKit
set_option linter.unusedSimpArgs false
set_option linter.unusedVariables false
set_option maxHeartbeats 8000000
set_option maxRecDepth 100000
def cmdOkC (c : Cmd) : Bool := cmdOk c.Kind c.Key c.Val
def batchOk (b : Batch) : Bool := bif b.Collect then ((b.Cmds.length : Int) == 0) else within b.Cmds.length 1 6 && b.Cmds.all cmdOkC
def isTell (s : Int) (e : TEv) : Bool := bif e.Kind == 3 then e.Serial == s else false
def evIs (k s : Int) (e : TEv) : Bool := bif e.Kind == k then e.Serial == s else false
def codes (l : List TEv) (c : Int) : Nat := l.countP fun e => bif e.Kind == 3 then e.Code == c else false
def placeOf (l : List TEv) (k s : Int) : Int := ixF (evIs k s) l
def inTime (l : List TEv) (a b : Int) : Bool := decide (0 ≤ placeOf l 3 a) && decide (0 ≤ placeOf l 1 b) && decide (placeOf l 3 a < placeOf l 1 b)
theorem placeOf_le (l : List TEv) (k s : Int) : -1 ≤ placeOf l k s ∧ placeOf l k s ≤ l.length := by
  unfold placeOf
  rcases ixF_cases (evIs k s) l with ⟨e, _⟩ | ⟨i, hi, e, _⟩ <;> rw [e] <;> omega
def told (L : List TEv) (s : Int) : Bool := match L.find? (evIs 3 s) with
  | some e => e.Code == 0
  | none => false
theorem told_none {L : List TEv} {s : Int} (h : ∀ j (hj : j < L.length), evIs 3 s L[j] = false) : told L s = false := by
  unfold told
  have : L.find? (evIs 3 s) = none := by
    rw [List.find?_eq_none]
    intro x hx
    obtain ⟨j, hj, rfl⟩ := List.getElem_of_mem hx
    simp [h j hj]
  rw [this]
theorem told_some {L : List TEv} {s : Int} {i : Nat} (hi : i < L.length) (hp : evIs 3 s L[i] = true) (h : ∀ j (hj : j < L.length), j < i → evIs 3 s L[j] = false) : told L s = (L[i].Code == 0) := by
  unfold told
  have : L.find? (evIs 3 s) = some L[i] := by
    rw [List.find?_eq_some_iff_getElem]
    refine ⟨hp, i, hi, rfl, fun j hj => ?_⟩
    simp [h j (by omega) hj]
  rw [this]
def orderGo (L : List TEv) (o : List Int) : List TEv → List Int
  | [] => o
  | e :: r => orderGo L (bif (bif e.Kind != 2 then true else o.any fun x => x == e.Serial) then o else bif told L e.Serial then o ++ [e.Serial] else o) r
def order (L : List TEv) : List Int := orderGo L [] L
theorem orderGo_len (L : List TEv) : ∀ (r : List TEv) (o : List Int), (orderGo L o r).length ≤ o.length + r.length
  | [], o => by simp [orderGo]
  | e :: r, o => by
    unfold orderGo
    refine Nat.le_trans (orderGo_len L r _) ?_
    cases (bif e.Kind != 2 then true else o.any fun x => x == e.Serial) <;> cases told L e.Serial <;> simp <;> omega
theorem order_len (L : List TEv) : (order L).length ≤ L.length := by have := orderGo_len L L []; simpa [order] using this
theorem c67 (l : List Int) (hl : l.length ≤ maxLen) (x : Int) : Ctr Tryz.prog 67 [.one (.dat (.sl 1 (l.map encI))), .one (.dat (.int .i64 x))] [] (.one (.dat (.bool (l.any fun y => y == x)))) [] := by
  refine Ctr.bd mixed Tryz.func67 rfl ?_
  refine evl ?_
  refine LoopK_intro (fun zn zs => ∃ i : Nat, i ≤ l.length ∧ zn = l.length - i ∧ ((l.any fun y => y == x) = ((l.drop i).any fun y => y == x)) ∧ zs = mkSt [(5, .one (.dat (.int .i64 i))), (0, .one (.dat (.sl 1 (l.map encI)))), (1, .one (.dat (.int .i64 x)))] []) (l.length) _
    (Ent.wk []) ⟨0, by omega, by omega, by simp, rfl⟩ ?_
  rintro zn zs ⟨i, hi, rfl, hinv, rfl⟩ K hK
  rcases Nat.lt_or_ge i (l.length) with hlt | hge
  · have hdi : decide ((i : Int) < ((l.length : Nat) : Int)) = true := decide_eq_true (by omega)
    have hw := wrap_succ hlt hl
    rw [List.drop_eq_getElem_cons hlt, List.any_cons] at hinv
    simp (maxSteps := 2000000) only [go_sem, ↓reduceIte, reduceCtorEq, Nat.reduceAdd, Nat.reduceMul, Nat.reduceSub, Nat.reduceLT, Nat.reduceLeDiff, Nat.reduceEqDiff, Int.reduceToNat, Int.reduceLT, Int.reduceLE, Int.reduceNeg, hdi, hw, getD_map hlt, encI, List.length_map]
    repeat ((with_reducible show _ ∧ _); refine scA ?_)
    refine ⟨fun h => ?_, fun h => ?_⟩
    · apply hK
      refine evl ?_
      refine Fin.nt Tryz.results67 [] ?_ ?_ ?_ <;> try trivial
      first | exact True.intro | (refine rsl ?_; try exact True.intro)
      rw [hinv, h, Bool.true_or]
    · rw [h, Bool.false_or] at hinv
      (apply hK
       exact ⟨l.length - (i + 1), _, by omega, Ent.wk [], i + 1, by omega, rfl, hinv, rfl⟩)
  · have hge' : l.length = i := by omega
    subst hge'
    have hdi : decide (((l.length : Nat) : Int) < ((l.length : Nat) : Int)) = false := by simp
    simp (maxSteps := 2000000) only [go_sem, ↓reduceIte, reduceCtorEq, Nat.reduceAdd, Nat.reduceMul, Nat.reduceSub, Nat.reduceLT, Nat.reduceLeDiff, Nat.reduceEqDiff, Int.reduceToNat, Int.reduceLT, Int.reduceLE, Int.reduceNeg, hdi, List.length_map]
    apply hK
    refine evl ?_
    refine Fin.nt Tryz.results67 [] ?_ ?_ ?_ <;> try trivial
    first | exact True.intro | (refine rsl ?_; try exact True.intro)
    rw [hinv]; simp
theorem any_take_true {α : Type} {p : α → Bool} {l : List α} {i k : Nat} (hk : k < i) (hl : k < l.length) (h : p l[k] = true) : (l.take i).any p = true :=
  List.any_eq_true.2 ⟨l[k], List.mem_take_iff_getElem.2 ⟨k, by omega, rfl⟩, h⟩
theorem any_take_false {α : Type} {p : α → Bool} {l : List α} {i : Nat} (h : ∀ j (hj : j < l.length), j < i → p l[j] = false) : (l.take i).any p = false := by
  rw [List.any_eq_false]
  intro x hx
  obtain ⟨j, hj, rfl⟩ := List.mem_take_iff_getElem.1 hx
  simp [h j (by omega) (by omega)]
def strictGo (L : List TEv) (pre : List Int) : List Int → Bool
  | [] => true
  | x :: r => bif pre.any (fun y => inTime L x y) then false else strictGo L (pre ++ [x]) r
def strict (L : List TEv) : Bool := strictGo L [] (order L)
end Go.Proofs.YtacmmahhlognnaaGreat.Mod
