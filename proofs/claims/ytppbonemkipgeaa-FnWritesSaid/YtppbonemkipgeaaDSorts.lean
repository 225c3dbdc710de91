/- Contracts: Sorts. -/
import Derived.Test.YtppbonemkipgeaaRows
import Derived.Test.YtppbonemkipgeaaDTy
import Derived.Test.YtppbonemkipgeaaAbsTac
import Derived.Test.YtppbonemkipgeaaAbsData
import Derived.Test.YtppbonemkipgeaaAbsSort
import Derived.Test.YtppbonemkipgeaaDFam2
import Derived.Test.YtppbonemkipgeaaDMap
import Derived.Test.YtppbonemkipgeaaDNum
import Derived.Test.YtppbonemkipgeaaDSl
import Derived.Test.YtppbonemkipgeaaLaid
import Derived.WalkKit
import Derived.ProofKit
import Derived.OpenShut
namespace Go.Proofs.Ytppbonemkipgeaa.Mod
open Go.Proofs.Try Go.Abs Go.Proofs.Ytppbonemkipgeaa.Ty Go.ChangeShapes Go.WideShapes Go.ChangeAt Go.RowKit
set_option linter.unusedSimpArgs false
set_option linter.unusedVariables false
set_option maxHeartbeats 8000000
set_option maxRecDepth 100000
def insN (x : Int) : List Int -> List Int
 | [] => [x]
 | y :: r => if x < y then x :: y :: r else y :: insN x r
def putN (l : List Int) (x : Int) : List Int := if x ∈ l then l else insN x l
def putsN (l : List Int) (xs : List Int) : List Int := xs.foldl putN l
def putG (x : Int) : List Int -> Bool -> List Int -> List Int
 | o, d, [] => if d then o else o ++ [x]
 | o, d, y :: r => if !d && decide (x < y) then putG x (o ++ [x] ++ [y]) true r else putG x (o ++ [y]) d r
theorem putG_true (x : Int) : ∀ (r o : List Int), putG x o true r = o ++ r
 | [], o => by simp [putG]
 | y :: r, o => by simp [putG, putG_true x r]
theorem putG_false (x : Int) : ∀ (r o : List Int), putG x o false r = o ++ insN x r
 | [], o => by simp [putG, insN]
 | y :: r, o => by
  by_cases h : x < y
  ·simp [putG, insN, h, putG_true x r]
  ·simp [putG, insN, h, putG_false x r]
theorem insN_mem {x z : Int} : ∀ {r : List Int}, z ∈ insN x r ↔ z = x \/ z ∈ r
 | [] => by simp [insN]
 | y :: r => by
  by_cases h : x < y
  ·simp [insN, h]
  ·simp only [insN, h, if_false, List.mem_cons, insN_mem (r := r)]
   constructor
   ·rintro (h | h | h) <;> simp [h]
   ·rintro (h | h | h) <;> simp [h]
theorem insN_len (x : Int) : ∀ (r : List Int), (insN x r).length = r.length + 1
 | [] => rfl
 | y :: r => by
  by_cases h : x < y
  ·simp [insN, h]
  ·simp [insN, h, insN_len x r]
theorem insN_up {x : Int} : ∀ {r : List Int}, r.Pairwise (· < ·) -> x ∉ r -> (insN x r).Pairwise (· < ·)
 | [], _, _ => by simp [insN]
 | y :: r, hp, hx => by
  rw [List.pairwise_cons] at hp
  have hxy : x ≠ y := fun e => hx (by simp [e])
  by_cases h : x < y
  ·simp only [insN, h, if_true]
   refine List.pairwise_cons.2 ⟨fun z hz => ?_, List.pairwise_cons.2 hp⟩
   rcases List.mem_cons.1 hz with e | hz
   ·omega
   ·have := hp.1 z hz; omega
  ·simp only [insN, h, if_false]
   refine List.pairwise_cons.2 ⟨fun z hz => ?_, insN_up hp.2 (fun hm => hx (List.mem_cons_of_mem _ hm))⟩
   rcases insN_mem.1 hz with e | hz
   ·omega
   ·exact hp.1 z hz
theorem putN_mem {l : List Int} {x z : Int} : z ∈ putN l x ↔ z ∈ l \/ z = x := by
 unfold putN
 split
 ·rename_i h
  exact ⟨.inl, fun h' => h'.elim id (fun e => e ▸ h)⟩
 ·rw [insN_mem]; exact Or.comm
theorem putN_up {l : List Int} {x : Int} (h : l.Pairwise (· < ·)) : (putN l x).Pairwise (· < ·) := by
 unfold putN
 split
 ·exact h
 ·rename_i hx; exact insN_up h hx
theorem putN_len (l : List Int) (x : Int) : (putN l x).length <= l.length + 1 := by
 unfold putN
 split
 ·omega
 ·rw [insN_len]; exact Nat.le_refl _
theorem putsN_mem {z : Int} : ∀ {xs l : List Int}, z ∈ putsN l xs ↔ z ∈ l \/ z ∈ xs
 | [], l => by simp [putsN]
 | x :: xs, l => by
  show z ∈ putsN (putN l x) xs ↔ _
  rw [putsN_mem (xs := xs), putN_mem, List.mem_cons, or_assoc]
theorem putsN_up : ∀ {xs l : List Int}, l.Pairwise (· < ·) -> (putsN l xs).Pairwise (· < ·)
 | [], l, h => h
 | x :: xs, l, h => putsN_up (xs := xs) (putN_up h)
theorem putsN_len : ∀ (xs l : List Int), (putsN l xs).length <= l.length + xs.length
 | [], l => Nat.le_refl _
 | x :: xs, l => by
  have h1 := putsN_len xs (putN l x)
  have h2 := putN_len l x
  show (putsN (putN l x) xs).length <= _
  rw [List.length_cons]; omega
theorem putsN_snoc (l xs : List Int) (x : Int) : putsN l (xs ++ [x]) = putN (putsN l xs) x := by simp [putsN]
theorem putsN_app (l xs ys : List Int) : putsN l (xs ++ ys) = putsN (putsN l xs) ys := by simp [putsN]
theorem up_ext : ∀ {a b : List Int}, a.Pairwise (· < ·) -> b.Pairwise (· < ·) -> (∀ z, z ∈ a ↔ z ∈ b) -> a = b
 | [], [], _, _, _ => rfl
 | [], y :: b, _, _, h => absurd ((h y).2 (by simp)) (by simp)
 | x :: a, [], _, _, h => absurd ((h x).1 (by simp)) (by simp)
 | x :: a, y :: b, ha, hb, h => by
  rw [List.pairwise_cons] at ha hb
  have hxy : x = y := by
   rcases List.mem_cons.1 ((h x).1 (by simp)) with e | h1
   ·exact e
   ·rcases List.mem_cons.1 ((h y).2 (by simp)) with e | h2
    ·exact e.symm
    ·have := hb.1 x h1; have := ha.1 y h2; omega
  subst hxy
  rw [up_ext ha.2 hb.2 fun z => ?_]
  constructor
  ·intro hz
   rcases List.mem_cons.1 ((h z).1 (List.mem_cons_of_mem _ hz)) with e | h1
   ·have := ha.1 z hz; omega
   ·exact h1
  ·intro hz
   rcases List.mem_cons.1 ((h z).2 (List.mem_cons_of_mem _ hz)) with e | h1
   ·have := hb.1 z hz; omega
   ·exact h1
theorem compact_up {d : Array Int} (hs : ∀ i j, i <= j -> j < d.size -> d[i]! <= d[j]!) : ∀ (m : Nat), m <= d.size -> (Lib.compactUpTo d m).Pairwise (· < ·) /\ ∀ z, z ∈ Lib.compactUpTo d m ↔ ∃ j, j < m /\ d[j]! = z
 | 0, _ => by
  refine ⟨by simp [Lib.compactUpTo], fun z => ?_⟩
  simp [Lib.compactUpTo]
 | m + 1, hm => by
  obtain ⟨h1, h2⟩ := compact_up hs m (by omega)
  rw [Lib.compactUpTo_succ]
  cases hk : Lib.keeps d m with
  | true =>
   simp only [if_true]
   have hk' : m = 0 \/ d[m]! ≠ d[m - 1]! := by simpa [Lib.keeps] using hk
   refine ⟨List.pairwise_append.2 ⟨h1, by simp, fun a ha b hb => ?_⟩, fun z => ?_⟩
   ·obtain ⟨j, hj, rfl⟩ := (h2 a).1 ha
    rw [List.mem_singleton.1 hb]
    have a1 := hs j (m - 1) (by omega) (by omega)
    have a2 := hs (m - 1) m (by omega) (by omega)
    rcases hk' with e | e
    ·omega
    ·omega
   ·rw [List.mem_append, h2, List.mem_singleton]
    constructor
    ·rintro (⟨j, hj, e⟩ | e)
     ·exact ⟨j, by omega, e⟩
     ·exact ⟨m, by omega, e.symm⟩
    ·rintro ⟨j, hj, e⟩
     by_cases hjm : j = m
     ·exact .inr (by rw [<- e, hjm])
     ·exact .inl ⟨j, by omega, e⟩
  | false =>
   have hk' : m ≠ 0 /\ d[m]! = d[m - 1]! := by simpa [Lib.keeps] using hk
   simp only [Bool.false_eq_true, if_false, List.append_nil]
   refine ⟨h1, fun z => ?_⟩
   rw [h2]
   constructor
   ·rintro ⟨j, hj, e⟩; exact ⟨j, by omega, e⟩
   ·rintro ⟨j, hj, e⟩
    by_cases hjm : j = m
    ·exact ⟨m - 1, by omega, by rw [<- hk'.2, <- e, hjm]⟩
    ·exact ⟨j, by omega, e⟩
theorem compact_sort (l : List Int) : Lib.compact (l.mergeSort fun x y => decide (x <= y)) = putsN [] l := by
 have hp : (l.mergeSort fun x y => decide (x <= y)).Pairwise (fun a b => decide (a <= b) = true) := List.pairwise_mergeSort (fun a b c h1 h2 => by simp at h1 h2 ⊢; omega) (fun a b => by simp; omega) l
 have hm : ∀ z, z ∈ (l.mergeSort fun x y => decide (x <= y)) ↔ z ∈ l := fun z => List.mem_mergeSort
 generalize (l.mergeSort fun x y => decide (x <= y)) = s at hp hm
 have hs : ∀ i j, i <= j -> j < s.toArray.size -> s.toArray[i]! <= s.toArray[j]! := fun i j hij hj => by
  have hj' : j < s.length := by simpa using hj
  rw [getElem!_pos _ i (by simp; omega), getElem!_pos _ j hj]
  by_cases e : i = j
  ·subst e; exact Int.le_refl _
  ·have := List.pairwise_iff_getElem.1 hp i j (by omega) hj' (by omega)
   simpa using this
 obtain ⟨h1, h2⟩ := compact_up hs s.length (by simp)
 refine up_ext h1 (putsN_up List.Pairwise.nil) fun z => ?_
 unfold Lib.compact
 rw [h2, putsN_mem]
 constructor
 ·rintro ⟨j, hj, e⟩
  rw [getElem!_pos _ j (by simpa using hj)] at e
  exact .inr ((hm z).1 (by rw [<- e]; simp))
 ·rintro (h | h)
  ·simp at h
  ·obtain ⟨j, hj, e⟩ := List.getElem_of_mem ((hm z).2 h)
   exact ⟨j, hj, by rw [getElem!_pos _ j (by simpa using hj)]; simpa using e⟩
def ascN (l : List Int) : List Int := putsN [] (l.filter fun n => !(n == 0))
theorem ascN_len (l : List Int) : (ascN l).length <= l.length := by
 have := putsN_len (l.filter fun n => !(n == 0)) []
 have h2 := List.length_filter_le (fun n : Int => !(n == 0)) l
 unfold ascN
 simp only [List.length_nil, Nat.zero_add] at this
 omega
theorem c42 (l : List Int) (hl : l.length <= 16777216) : Ctr prog 42 [.one (.own 0)] [.vec 1 true (l.map encI)] (.tup []) [.vec 1 true ((l.mergeSort fun x y => decide (x <= y)).map encI)] :=
 Ctr.sortInts Ytppbonemkipgeaa.lays189 l hl
theorem c43 (l : List Int) (hl : l.length <= 16777216) : Ctr prog 43 [.one (.own 0)] [.vec 1 true (l.map encI)] (.one (.own 1)) [.dead, .vec 1 true ((Lib.compact l).map encI)] :=
 Ctr.compactInts Ytppbonemkipgeaa.lays20 l hl
end Go.Proofs.Ytppbonemkipgeaa.Mod
