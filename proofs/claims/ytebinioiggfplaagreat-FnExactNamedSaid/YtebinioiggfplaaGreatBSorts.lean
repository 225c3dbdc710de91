/- Contracts: Sorts. -/
import Derived.Test.YtebinioiggfplaaGreatRows
import Derived.Test.YtebinioiggfplaaGreatBTy
import Derived.Test.YtebinioiggfplaaGreatAbsTac
import Derived.Test.YtebinioiggfplaaGreatAbsData
import Derived.Test.YtebinioiggfplaaGreatAbsSort
import Derived.Test.YtebinioiggfplaaGreatBFam2
import Derived.Test.YtebinioiggfplaaGreatBHist
import Derived.Test.YtebinioiggfplaaGreatBSl
import Derived.Test.YtebinioiggfplaaGreatBSl2
import Derived.Test.YtebinioiggfplaaGreatBValid
import Derived.Test.YtebinioiggfplaaGreatLaid
import Derived.WalkKit
import Derived.ProofKit
import Derived.OpenShut
namespace Go.Proofs.YtebinioiggfplaaGreat.Mod
open Go.Proofs.Tryz Go.Abs Go.Proofs.YtebinioiggfplaaGreat.Ty Go.ChangeShapes Go.WideShapes Go.ChangeAt Go.RowKit
set_option linter.unusedSimpArgs false
set_option linter.unusedVariables false
set_option maxHeartbeats 8000000
set_option maxRecDepth 100000
theorem c44 (l : List Int) (hl : l.length <= 16777216) : Ctr prog 44 [.one (.dat (.sl 1 (l.map encI)))] [] (.one (.own 0)) [.vec 1 true (l.map encI)] := by
 refine Ctr.bd mixed func44 rfl ?_
 refine evl ?_
 intro b hb
 constructor <;> intro h
 ·have : l = [] := by simpa using hb h
  subst this
  refine Fin.ent (Ent.emp (t := 2) (sz := 1) rfl) ?_
  refine evl ?_
  refine Fin.nt results44 [0] ?_ ?_ ?_ <;> try trivial
  all_goals exact entd
 ·refine ⟨by simp, ⟨by simp [encI, D.flat], by simp, by omega, by omega⟩, ?_⟩
  refine Fin.nt results44 [1] ?_ ?_ ?_ <;> try trivial
  all_goals exact entd
def insN (x : Int) : List Int -> List Int
 | [] => [x]
 | y :: r => if x < y then x :: y :: r else y :: insN x r
def putN (l : List Int) (x : Int) : List Int := if x ∈ l then l else insN x l
def putsN (l : List Int) (xs : List Int) : List Int := xs.foldl putN l
def putG (x : Int) : List Int -> Bool -> List Int -> List Int
 | o, d, [] => if d then o else o ++ [x]
 | o, d, y :: r => if !d && decide (x < y) then putG x (o ++ [x] ++ [y]) true r else putG x (o ++ [y]) d r
theorem putG_true (x : Int) : ∀ (r o : List Int), putG x o true r = o ++ r
 | [], o => by simp [putG]
 | y :: r, o => by simp [putG, putG_true x r]
theorem putG_false (x : Int) : ∀ (r o : List Int), putG x o false r = o ++ insN x r
 | [], o => by simp [putG, insN]
 | y :: r, o => by
  by_cases h : x < y
  ·simp [putG, insN, h, putG_true x r]
  ·simp [putG, insN, h, putG_false x r]
theorem insN_mem {x z : Int} : ∀ {r : List Int}, z ∈ insN x r ↔ z = x \/ z ∈ r
 | [] => by simp [insN]
 | y :: r => by
  by_cases h : x < y
  ·simp [insN, h]
  ·simp only [insN, h, if_false, List.mem_cons, insN_mem (r := r)]
   constructor
   ·rintro (h | h | h) <;> simp [h]
   ·rintro (h | h | h) <;> simp [h]
theorem insN_len (x : Int) : ∀ (r : List Int), (insN x r).length = r.length + 1
 | [] => rfl
 | y :: r => by
  by_cases h : x < y
  ·simp [insN, h]
  ·simp [insN, h, insN_len x r]
theorem insN_up {x : Int} : ∀ {r : List Int}, r.Pairwise (· < ·) -> x ∉ r -> (insN x r).Pairwise (· < ·)
 | [], _, _ => by simp [insN]
 | y :: r, hp, hx => by
  rw [List.pairwise_cons] at hp
  have hxy : x ≠ y := fun e => hx (by simp [e])
  by_cases h : x < y
  ·simp only [insN, h, if_true]
   refine List.pairwise_cons.2 ⟨fun z hz => ?_, List.pairwise_cons.2 hp⟩
   rcases List.mem_cons.1 hz with e | hz
   ·omega
   ·have := hp.1 z hz; omega
  ·simp only [insN, h, if_false]
   refine List.pairwise_cons.2 ⟨fun z hz => ?_, insN_up hp.2 (fun hm => hx (List.mem_cons_of_mem _ hm))⟩
   rcases insN_mem.1 hz with e | hz
   ·omega
   ·exact hp.1 z hz
theorem putN_mem {l : List Int} {x z : Int} : z ∈ putN l x ↔ z ∈ l \/ z = x := by
 unfold putN
 split
 ·rename_i h
  exact ⟨.inl, fun h' => h'.elim id (fun e => e ▸ h)⟩
 ·rw [insN_mem]; exact Or.comm
theorem putN_up {l : List Int} {x : Int} (h : l.Pairwise (· < ·)) : (putN l x).Pairwise (· < ·) := by
 unfold putN
 split
 ·exact h
 ·rename_i hx; exact insN_up h hx
theorem putN_len (l : List Int) (x : Int) : (putN l x).length <= l.length + 1 := by
 unfold putN
 split
 ·omega
 ·rw [insN_len]; exact Nat.le_refl _
theorem putsN_mem {z : Int} : ∀ {xs l : List Int}, z ∈ putsN l xs ↔ z ∈ l \/ z ∈ xs
 | [], l => by simp [putsN]
 | x :: xs, l => by
  show z ∈ putsN (putN l x) xs ↔ _
  rw [putsN_mem (xs := xs), putN_mem, List.mem_cons, or_assoc]
theorem putsN_up : ∀ {xs l : List Int}, l.Pairwise (· < ·) -> (putsN l xs).Pairwise (· < ·)
 | [], l, h => h
 | x :: xs, l, h => putsN_up (xs := xs) (putN_up h)
theorem putsN_len : ∀ (xs l : List Int), (putsN l xs).length <= l.length + xs.length
 | [], l => Nat.le_refl _
 | x :: xs, l => by
  have h1 := putsN_len xs (putN l x)
  have h2 := putN_len l x
  show (putsN (putN l x) xs).length <= _
  rw [List.length_cons]; omega
theorem putsN_snoc (l xs : List Int) (x : Int) : putsN l (xs ++ [x]) = putN (putsN l xs) x := by simp [putsN]
theorem putsN_app (l xs ys : List Int) : putsN l (xs ++ ys) = putsN (putsN l xs) ys := by simp [putsN]
theorem up_ext : ∀ {a b : List Int}, a.Pairwise (· < ·) -> b.Pairwise (· < ·) -> (∀ z, z ∈ a ↔ z ∈ b) -> a = b
 | [], [], _, _, _ => rfl
 | [], y :: b, _, _, h => absurd ((h y).2 (by simp)) (by simp)
 | x :: a, [], _, _, h => absurd ((h x).1 (by simp)) (by simp)
 | x :: a, y :: b, ha, hb, h => by
  rw [List.pairwise_cons] at ha hb
  have hxy : x = y := by
   rcases List.mem_cons.1 ((h x).1 (by simp)) with e | h1
   ·exact e
   ·rcases List.mem_cons.1 ((h y).2 (by simp)) with e | h2
    ·exact e.symm
    ·have := hb.1 x h1; have := ha.1 y h2; omega
  subst hxy
  rw [up_ext ha.2 hb.2 fun z => ?_]
  constructor
  ·intro hz
   rcases List.mem_cons.1 ((h z).1 (List.mem_cons_of_mem _ hz)) with e | h1
   ·have := ha.1 z hz; omega
   ·exact h1
  ·intro hz
   rcases List.mem_cons.1 ((h z).2 (List.mem_cons_of_mem _ hz)) with e | h1
   ·have := hb.1 z hz; omega
   ·exact h1
theorem compact_up {d : Array Int} (hs : ∀ i j, i <= j -> j < d.size -> d[i]! <= d[j]!) : ∀ (m : Nat), m <= d.size -> (Lib.compactUpTo d m).Pairwise (· < ·) /\ ∀ z, z ∈ Lib.compactUpTo d m ↔ ∃ j, j < m /\ d[j]! = z
 | 0, _ => by
  refine ⟨by simp [Lib.compactUpTo], fun z => ?_⟩
  simp [Lib.compactUpTo]
 | m + 1, hm => by
  obtain ⟨h1, h2⟩ := compact_up hs m (by omega)
  rw [Lib.compactUpTo_succ]
  cases hk : Lib.keeps d m with
  | true =>
   simp only [if_true]
   have hk' : m = 0 \/ d[m]! ≠ d[m - 1]! := by simpa [Lib.keeps] using hk
   refine ⟨List.pairwise_append.2 ⟨h1, by simp, fun a ha b hb => ?_⟩, fun z => ?_⟩
   ·obtain ⟨j, hj, rfl⟩ := (h2 a).1 ha
    rw [List.mem_singleton.1 hb]
    have a1 := hs j (m - 1) (by omega) (by omega)
    have a2 := hs (m - 1) m (by omega) (by omega)
    rcases hk' with e | e
    ·omega
    ·omega
   ·rw [List.mem_append, h2, List.mem_singleton]
    constructor
    ·rintro (⟨j, hj, e⟩ | e)
     ·exact ⟨j, by omega, e⟩
     ·exact ⟨m, by omega, e.symm⟩
    ·rintro ⟨j, hj, e⟩
     by_cases hjm : j = m
     ·exact .inr (by rw [<- e, hjm])
     ·exact .inl ⟨j, by omega, e⟩
  | false =>
   have hk' : m ≠ 0 /\ d[m]! = d[m - 1]! := by simpa [Lib.keeps] using hk
   simp only [Bool.false_eq_true, if_false, List.append_nil]
   refine ⟨h1, fun z => ?_⟩
   rw [h2]
   constructor
   ·rintro ⟨j, hj, e⟩; exact ⟨j, by omega, e⟩
   ·rintro ⟨j, hj, e⟩
    by_cases hjm : j = m
    ·exact ⟨m - 1, by omega, by rw [<- hk'.2, <- e, hjm]⟩
    ·exact ⟨j, by omega, e⟩
theorem compact_sort (l : List Int) : Lib.compact (l.mergeSort fun x y => decide (x <= y)) = putsN [] l := by
 have hp : (l.mergeSort fun x y => decide (x <= y)).Pairwise (fun a b => decide (a <= b) = true) := List.pairwise_mergeSort (fun a b c h1 h2 => by simp at h1 h2 ⊢; omega) (fun a b => by simp; omega) l
 have hm : ∀ z, z ∈ (l.mergeSort fun x y => decide (x <= y)) ↔ z ∈ l := fun z => List.mem_mergeSort
 generalize (l.mergeSort fun x y => decide (x <= y)) = s at hp hm
 have hs : ∀ i j, i <= j -> j < s.toArray.size -> s.toArray[i]! <= s.toArray[j]! := fun i j hij hj => by
  have hj' : j < s.length := by simpa using hj
  rw [getElem!_pos _ i (by simp; omega), getElem!_pos _ j hj]
  by_cases e : i = j
  ·subst e; exact Int.le_refl _
  ·have := List.pairwise_iff_getElem.1 hp i j (by omega) hj' (by omega)
   simpa using this
 obtain ⟨h1, h2⟩ := compact_up hs s.length (by simp)
 refine up_ext h1 (putsN_up List.Pairwise.nil) fun z => ?_
 unfold Lib.compact
 rw [h2, putsN_mem]
 constructor
 ·rintro ⟨j, hj, e⟩
  rw [getElem!_pos _ j (by simpa using hj)] at e
  exact .inr ((hm z).1 (by rw [<- e]; simp))
 ·rintro (h | h)
  ·simp at h
  ·obtain ⟨j, hj, e⟩ := List.getElem_of_mem ((hm z).2 h)
   exact ⟨j, hj, by rw [getElem!_pos _ j (by simpa using hj)]; simpa using e⟩
def ascN (l : List Int) : List Int := putsN [] (l.filter fun n => !(n == 0))
theorem ascN_len (l : List Int) : (ascN l).length <= l.length := by
 have := putsN_len (l.filter fun n => !(n == 0)) []
 have h2 := List.length_filter_le (fun n : Int => !(n == 0)) l
 unfold ascN
 simp only [List.length_nil, Nat.zero_add] at this
 omega
theorem c93 (l : List Int) (hl : l.length <= 16777216) : Ctr prog 93 [.one (.own 0)] [.vec 1 true (l.map encI)] (.tup []) [.vec 1 true ((l.mergeSort fun x y => decide (x <= y)).map encI)] :=
 Ctr.sortInts YtebinioiggfplaaGreat.lays189 l hl
theorem c94 (l : List Int) (hl : l.length <= 16777216) : Ctr prog 94 [.one (.own 0)] [.vec 1 true (l.map encI)] (.one (.own 1)) [.dead, .vec 1 true ((Lib.compact l).map encI)] :=
 Ctr.compactInts YtebinioiggfplaaGreat.lays20 l hl
theorem c91 (l : List Int) (hl : l.length <= 16777216) {fid : FuncId} {p : Int -> Bool} (he : enters prog fid = true)
  (hp : ∀ x : Int, Ctr prog fid [.one (.dat (.int .i64 x))] [] (.one (.dat (.bool (p x)))) []) :
  Ctr prog 91 [.one (.own 0), .one (.fn fid [])] [.vec 1 true (l.map encI)] (.one (.own 1)) [.dead, .vec 1 true ((l.filter fun x => !p x).map encI)] := by
 have hl' : l.length <= maxLen := Nat.le_trans hl (by decide)
 have hfl : ∀ R : List Int, flatRows (R.map encI) := fun R => by simp [flatRows, encI, D.flat]
 refine Ctr.of_body mixed func91 rfl (by kernel_rfl) (Nat.le_of_ble_eq_true rfl) (by simp [AV.Clean, AV.Clean1, Leaf.Clean]) (by simp [AObj.Sep]) (by simp) ?_ (by simp [AV.Low, AV.Low1, Leaf.Low]) ?_
 ·intro o ho
  have : o = 0 := by simpa using ho
  subst this
  simp [Objs, Compat]
 show wpA _ _ _ (FinQ _ _ _ _ _) _
 refine evl ?_
 refine CallK_pure e143 (c143_k0 l hl' he (fun x _ => hp x)) rfl ?_
 rcases ixF_cases p l with ⟨e, hno⟩ | ⟨i0, hi0, e, hpi, hno⟩
 ·rw [e, filt_all hno]
  refine evl ?_
  refine Fin.ent (Ent.move (t := 4) (o := 0) (sz := 1) (sep := true) (rows := l.map encI) rfl rfl (hfl l)) ?_
  refine evl ?_
  refine Fin.nt results91 [0, 1] ?_ ?_ ?_ <;> try trivial
  all_goals exact entd
 ·rw [e]
  have hne : ((i0 : Int) == -1) = false := by first | (simp; done) | (simp; omega)
  have hw0 := wrap_succ hi0 hl'
  simp (maxSteps := 2000000) only [go_sem, seval, hne, hw0]
  refine LoopK_intro (fun n s => ∃ (i j : Nat) (R : List Int), j <= l.length /\ i < j /\ n = l.length - j /\ R.length = l.length /\ R.drop j = l.drop j /\ R.take i = (l.take j).filter (fun x => !p x) /\
    s = mkSt [(6, .one (.dat (.int .i64 j))), (5, .one (.dat (.int .i64 i))), (1, .one (.fn fid [])), (0, .one (.own 0))] [.vec 1 true (R.map encI)]) (l.length - (i0 + 1)) _
   (Ent.wk [0]) ⟨i0, i0 + 1, l, by omega, by omega, rfl, rfl, rfl, filt0 hi0 hpi hno, rfl⟩ ?_
  rintro n s ⟨i, j, R, hj, hij, rfl, hR, hd, ht, rfl⟩ K hK
  rcases Nat.lt_or_ge j l.length with hlt | hge
  ·have hltR : j < R.length := by omega
   have hltI : i < R.length := by omega
   obtain ⟨hg, hd'⟩ := drop_get hd hltR hlt
   have hdj : decide ((j : Int) < l.length) = true := by simpa using hlt
   have hw1 := wrap_succ hlt hl'
   have hw2 := wrap_succ (show i < l.length by omega) hl'
   have hpx := hp l[j]
   simp (maxSteps := 2000000) only [go_sem, seval, hR, hdj, getD_map hltR, hg, encI]
   refine ⟨⟨by omega, by omega⟩, ⟨hlt, by simp [D.flat]⟩, ?_⟩
   refine CallK_pure he hpx rfl ?_
   simp (maxSteps := 2000000) only [go_sem, seval, hR, encI, hw1, hw2]
   constructor <;> intro h
   ·refine ⟨⟨by omega, by omega⟩, ⟨by simp [D.flat], by omega⟩, ?_⟩
    apply hK
    refine ⟨l.length - (j + 1), _, by omega, Ent.weak (ids := [0]) (by simp) rfl (by simp) (by rw [List.map_set]; simp [objsLe, envLe, find, St.obj, AObj.renF, AV.renF, AV.renF1, Leaf.renF, LowAll, AV.Low, AV.Low1, Leaf.Low, AObj.Low, Ptr.renF, Ptr.Low]; try rfl) (by simp [objsLe, envLe, find, St.obj, AObj.renF, AV.renF, AV.renF1, Leaf.renF, LowAll, AV.Low, AV.Low1, Leaf.Low, AObj.Low, Ptr.renF, Ptr.Low]) (by simp [objsLe, envLe, find, St.obj, AObj.renF, AV.renF, AV.renF1, Leaf.renF, LowAll, AV.Low, AV.Low1, Leaf.Low, AObj.Low, Ptr.renF, Ptr.Low]), i + 1, j + 1, R.set i l[j], by omega, by omega, rfl, by simp [hR], ?_, filt_keep ht hltI hlt (by simpa using h), rfl⟩
    rw [List.drop_set_of_lt (by omega), hd']
   ·apply hK
    exact ⟨l.length - (j + 1), _, by omega, Ent.wk [0], i, j + 1, R, by omega, by omega, rfl, hR, hd', filt_skip ht hlt (by simpa using h), rfl⟩
  ·have hje : j = l.length := by omega
   subst hje
   have hdj : decide ((l.length : Int) < l.length) = false := by simp
   simp (maxSteps := 2000000) only [go_sem, seval, hR, hdj]
   apply hK
   simp (maxSteps := 2000000) only [go_sem, seval, hR]
   have hll : (lay (R.map encI) i (List.replicate (l.length - i) [.int .i64 0])).length = l.length := by rw [lay_length (by simp; omega)]; simp [hR]
   have hfin : (lay (R.map encI) i (List.replicate (l.length - i) [.int .i64 0])).take i = (l.filter fun x => !p x).map encI := by
    rw [lay_take (by simp; omega), <- List.map_take, ht, List.take_length]
   refine ⟨⟨by omega, by omega, by omega⟩, hfl R, ⟨by omega, by rw [hll]; omega⟩, ?_⟩
   refine Fin.ent (Ent.part (t := 4) (o := 0) (sz := 1) (sep := true) (n := i) (rows := lay (R.map encI) i (List.replicate (l.length - i) [.int .i64 0])) rfl rfl (flat_lay (hfl R) (by simp [flatRows, D.flat])) (by rw [hll]; omega)) ?_
   rw [hfin]
   refine evl ?_
   refine Fin.nt results91 [0, 1] ?_ ?_ ?_ <;> try trivial
   all_goals exact entd
theorem c92 (x : Int) : Ctr prog 92 [.one (.dat (.int .i64 x))] [] (.one (.dat (.bool (x == 0)))) [] := by
 refine Ctr.bd mixed func92 rfl ?_
 refine evl ?_
 refine Fin.nt results92 [] ?_ ?_ ?_ <;> try trivial
theorem c46 (l : List Int) (hl : l.length <= 1048576) : Ctr prog 46 [.one (.dat (.sl 1 (l.map encI)))] [] (.one (.own 0)) [.vec 1 true ((ascN l).map encI)] := by
 have hfl := List.length_filter_le (fun n : Int => !(n == 0)) l
 obtain ⟨F, hF⟩ : ∃ F, F = l.filter fun n => !(n == 0) := ⟨_, rfl⟩
 rw [<- hF] at hfl
 have hasc : ascN l = Lib.compact (F.mergeSort fun x y => decide (x <= y)) := by rw [compact_sort, hF]; rfl
 rw [hasc]
 have hdf := c91 l (by omega) (p := fun n => n == 0) e92 c92
 rw [<- hF] at hdf
 have hml : (F.mergeSort fun x y => decide (x <= y)).length <= 16777216 := by rw [List.length_mergeSort]; omega
 refine Ctr.bd mixed func46 rfl ?_
 refine evl ?_
 refine scs ?_
 refine ck e44 (c44 l (by omega)) rfl ?_
 refine evl ?_
 refine scs ?_
 refine CallK_os [0] e91 (by simp [osOk, St.obj, find]) hdf rfl ?_
 refine evl ?_
 refine scs ?_
 refine CallK_os [1] e93 (by simp [osOk, St.obj, find]) (c93 F (by omega)) rfl ?_
 refine evl ?_
 refine scs ?_
 refine CallK_os [1] e94 (by simp [osOk, St.obj, find]) (c94 _ hml) rfl ?_
 refine evl ?_
 refine scs ?_
 refine Fin.nt results46 [2] ?_ ?_ ?_ <;> try trivial
 all_goals exact entd
theorem c43 (l : List Int) (hl : l.length <= 1048576) (x : Int) : Ctr prog 43 [.one (.own 0), .one (.dat (.int .i64 x))] [.vec 1 true (l.map encI)] (.one (.own 1)) [.dead, .vec 1 true ((putN l x).map encI)] := by
 have hmx : maxLen = 9223372036854775807 := rfl
 have hfl : ∀ R : List Int, flatRows (R.map encI) := fun R => by simp [flatRows, encI, D.flat]
 refine Ctr.of_body mixed func43 rfl (by kernel_rfl) (Nat.le_of_ble_eq_true rfl) (by simp [AV.Clean, AV.Clean1, Leaf.Clean]) (by simp [AObj.Sep]) (by simp) ?_ (by simp [AV.Low, AV.Low1, Leaf.Low]) ?_
 ·intro o ho
  have : o = 0 := by simpa using ho
  subst this
  simp [Objs, Compat]
 show wpA _ _ _ (FinQ _ _ _ _ _) _
 refine evl ?_
 refine scs ?_
 by_cases hx : x ∈ l
 ·rw [show putN l x = l from if_pos hx]
  refine LoopK_intro (fun zn zs => ∃ (i : Nat) (o : List Int) (d : Bool), i <= l.length /\ zn = l.length - i /\ (x ∈ l.drop i /\ o.length <= 2 * i) /\ zs = mkSt [(7, .one (.dat (.int .i64 i))), (5, .one (.own 1)), (6, .one (.dat (.bool d))), (0, .one (.own 0)), (1, .one (.dat (.int .i64 x)))] [.vec 1 true (l.map encI), .vec 1 true (o.map encI)]) (l.length) _
   (Ent.wk [0, 1]) ⟨0, [], false, by omega, by omega, ⟨hx, by decide⟩, rfl⟩ ?_
  rintro zn zs ⟨i, o, d, hi, rfl, hinv, rfl⟩ K hK
  rcases Nat.lt_or_ge i (l.length) with hlt | hge
  ·have hdi : decide ((i : Int) < ((l.length : Nat) : Int)) = true := decide_eq_true (by omega)
   have hw := wrap_succ hlt (show l.length <= maxLen by omega)
   obtain ⟨hv1, hv2⟩ := hinv
   rw [List.drop_eq_getElem_cons hlt, List.mem_cons] at hv1
   refine sv10 ?_
   refine scs ?_
   constructor <;> intro hq
   ·apply hK
    refine sv10 ?_
    refine Fin.ent (Ent.move (t := 4) (o := 0) (sz := 1) (sep := true) (rows := l.map encI) rfl rfl (hfl l)) ?_
    refine evl ?_
    refine Fin.nt results43 [0, 2] ?_ ?_ ?_ <;> try trivial
    all_goals exact entd
   ·have hv3 : x ∈ l.drop (i + 1) := hv1.resolve_left (fun e => by rw [e] at hq; simp at hq)
    clear hq hv1
    refine scs ?_
    constructor <;> intro hq
    ·refine scs ?_
     simp only [encI_fold]
     (apply hK
      exact ⟨l.length - (i + 1), _, by omega, Ent.wk [0, 5], i + 1, (o ++ [x] ++ [l[i]]), true, by omega, rfl, ⟨hv3, by simp; omega⟩, rfl⟩)
    ·refine scs ?_
     simp only [encI_fold]
     (apply hK
      exact ⟨l.length - (i + 1), _, by omega, Ent.wk [0, 3], i + 1, (o ++ [l[i]]), d, by omega, rfl, ⟨hv3, by simp; omega⟩, rfl⟩)
  ·have hge' : l.length = i := by omega
   subst hge'
   have hdi : decide (((l.length : Nat) : Int) < ((l.length : Nat) : Int)) = false := by simp
   rw [List.drop_length] at hinv
   exact absurd hinv.1 (by simp)
 ·have hpg : putN l x = putG x [] false l := by rw [putG_false]; exact if_neg hx
  rw [hpg]
  refine LoopK_intro (fun zn zs => ∃ (i : Nat) (o : List Int) (d : Bool), i <= l.length /\ zn = l.length - i /\ (putG x [] false l = putG x o d (l.drop i) /\ o.length <= 2 * i) /\ zs = mkSt [(7, .one (.dat (.int .i64 i))), (5, .one (.own 1)), (6, .one (.dat (.bool d))), (0, .one (.own 0)), (1, .one (.dat (.int .i64 x)))] [.vec 1 true (l.map encI), .vec 1 true (o.map encI)]) (l.length) _
   (Ent.wk [0, 1]) ⟨0, [], false, by omega, by omega, ⟨rfl, by decide⟩, rfl⟩ ?_
  rintro zn zs ⟨i, o, d, hi, rfl, hinv, rfl⟩ K hK
  rcases Nat.lt_or_ge i (l.length) with hlt | hge
  ·have hdi : decide ((i : Int) < ((l.length : Nat) : Int)) = true := decide_eq_true (by omega)
   have hw := wrap_succ hlt (show l.length <= maxLen by omega)
   obtain ⟨hv1, hv2⟩ := hinv
   rw [List.drop_eq_getElem_cons hlt, putG] at hv1
   have hnx : ((l[i] : Int) == x) = false := by
    have : l[i] ≠ x := fun e => hx (e ▸ List.getElem_mem hlt)
    simpa using this
   simp (maxSteps := 2000000) only [go_sem, seval, hdi, hw, getD_map hlt, encI, hnx]
   refine scs ?_
   constructor <;> intro hq
   ·have hc : (!d && decide (x < l[i])) = true := by revert hq; cases d <;> simp
    rw [hc] at hv1
    refine scs ?_
    simp only [encI_fold]
    (apply hK
     exact ⟨l.length - (i + 1), _, by omega, Ent.wk [0, 5], i + 1, (o ++ [x] ++ [l[i]]), true, by omega, rfl, ⟨hv1, by simp; omega⟩, rfl⟩)
   ·have hc : (!d && decide (x < l[i])) = false := by revert hq; cases d <;> simp
    rw [hc] at hv1
    refine scs ?_
    simp only [encI_fold]
    (apply hK
     exact ⟨l.length - (i + 1), _, by omega, Ent.wk [0, 3], i + 1, (o ++ [l[i]]), d, by omega, rfl, ⟨hv1, by simp; omega⟩, rfl⟩)
  ·have hge' : l.length = i := by omega
   subst hge'
   have hdi : decide (((l.length : Nat) : Int) < ((l.length : Nat) : Int)) = false := by simp
   obtain ⟨hv1, hv2⟩ := hinv
   rw [List.drop_length, putG] at hv1
   refine sv3 ?_
   apply hK
   refine evl ?_
   constructor <;> intro hq
   ·have hd : d = false := by revert hq; cases d <;> simp
    subst hd
    rw [hv1]
    refine scs ?_
    refine Fin.nt results43 [0, 3] ?_ ?_ ?_ <;> try trivial
    all_goals (simp [objsLe, envLe, find, St.obj, AObj.renF, AV.renF, AV.renF1, Leaf.renF, LowAll, AV.Low, AV.Low1, Leaf.Low, AObj.Low, Ptr.renF, Ptr.Low]; try simp [encI])
   ·have hd : d = true := by revert hq; cases d <;> simp
    subst hd
    rw [hv1]
    refine scs ?_
    refine Fin.nt results43 [0, 1] ?_ ?_ ?_ <;> try trivial
    all_goals exact entd
end Go.Proofs.YtebinioiggfplaaGreat.Mod
