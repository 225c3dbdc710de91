/- Contracts: Chain. -/
import Derived.Test.YtacmmahhlognnaaGreatRows
import Derived.Test.YtacmmahhlognnaaGreatTy
import Derived.Test.YtacmmahhlognnaaGreatAbsTac
import Derived.Test.YtacmmahhlognnaaGreatAbsData
import Derived.Test.YtacmmahhlognnaaGreatMStore
import Derived.WalkKit
import Derived.ProofKit
import Derived.OpenShut
namespace Go.Proofs.YtacmmahhlognnaaGreat.Mod
open Go.Abs Go.Proofs.YtacmmahhlognnaaGreat.Ty Go.ChangeShapes Go.WideShapes Go.ChangeAt Go.RowKit
set_option linter.unusedSimpArgs false
set_option linter.unusedVariables false
set_option maxHeartbeats 8000000
set_option maxRecDepth 100000
def writableM (m : Mem) (h : Int) : Int := if isLiveM m h = false then 4 else if hasNodeM m.Heap (h % 32) = false then 2 else 0
def nodeOkM (x : Node) : Bool := nodeOk x.Key x.Val x.Next
def nodeOf (m : Mem) (h : Int) : Node := nodeInM m.Heap (h % 32)
def stepOk (m : Mem) (h : Int) (o : List Int) : Bool := isLiveM m h && hasNodeM m.Heap (h % 32) && !(o.any fun y => y == h) && nodeOkM (nodeOf m h)
def chainGo (m : Mem) : Nat → Int → List Int → Option (List Int)
  | f, h, o => if h = 0 then some o else match f with
    | 0 => none
    | f + 1 => if stepOk m h o = true then chainGo m f (nodeOf m h).Next (o ++ [h]) else none
def chainR (m : Mem) (head : Int) : List Int × Bool := if memOk m = true then (match chainGo m 25 head [] with
  | some l => (l, true)
  | none => ([], false)) else ([], false)
theorem chainGo_zero (m : Mem) (f : Nat) (o : List Int) : chainGo m f 0 o = some o := by
  unfold chainGo; simp
theorem chainGo_bad {m : Mem} {f : Nat} {h : Int} {o : List Int} (h0 : h ≠ 0) (hb : stepOk m h o = false) : chainGo m (f + 1) h o = none := by
  rw [chainGo]; simp [h0, hb]
theorem chainGo_step {m : Mem} {f : Nat} {h : Int} {o : List Int} (h0 : h ≠ 0) (hb : stepOk m h o = true) : chainGo m (f + 1) h o = chainGo m f (nodeOf m h).Next (o ++ [h]) := by
  rw [chainGo]; simp [h0, hb]
theorem nodup_lt : ∀ (n : Nat) (l : List Nat), l.Nodup → (∀ x ∈ l, x < n) → l.length ≤ n
  | 0, l, _, h => by
    cases l with
    | nil => exact Nat.le_refl _
    | cons x l => exact absurd (h x (by simp)) (Nat.not_lt_zero x)
  | n + 1, l, hn, h => by
    by_cases hm : n ∈ l
    · have h1 := nodup_lt n (l.erase n) (hn.erase n) (fun x hx => by
        have h2 := (hn.mem_erase_iff).1 hx
        have := h x h2.2
        omega)
      rw [List.length_erase_of_mem hm] at h1
      omega
    · have := nodup_lt n l hn (fun x hx => by
        have h1 := h x hx
        have : x ≠ n := fun e => hm (e ▸ hx)
        omega)
      omega
theorem step_a {m : Mem} {h : Int} {o : List Int} (hq : (bif (writableM m h != 0) then true else o.any fun y => y == h) = true) : stepOk m h o = false := by
  simp only [stepOk]
  cases h1 : isLiveM m h with
  | false => rfl
  | true =>
    cases h2 : hasNodeM m.Heap (h % 32) with
    | false => rfl
    | true =>
      have : writableM m h = 0 := by simp [writableM, h1, h2]
      rw [this] at hq
      have hq : (o.any fun y => y == h) = true := hq
      rw [hq]; rfl
theorem step_b {m : Mem} {h : Int} {o : List Int} (hq : (bif (writableM m h != 0) then true else o.any fun y => y == h) = false) : isLiveM m h = true ∧ hasNodeM m.Heap (h % 32) = true ∧ stepOk m h o = nodeOkM (nodeOf m h) := by
  cases h1 : isLiveM m h with
  | false =>
    have : writableM m h = 4 := by simp [writableM, h1]
    rw [this] at hq; cases hq
  | true =>
    cases h2 : hasNodeM m.Heap (h % 32) with
    | false =>
      have : writableM m h = 2 := by simp [writableM, h1, h2]
      rw [this] at hq; cases hq
    | true =>
      have : writableM m h = 0 := by simp [writableM, h1, h2]
      rw [this] at hq
      have hq : (o.any fun y => y == h) = false := hq
      exact ⟨rfl, rfl, by simp only [stepOk, h1, h2, hq]; rfl⟩
def Good (m : Mem) (o : List Int) : Prop := o.Nodup ∧ ∀ x ∈ o, isLiveM m x = true ∧ hasNodeM m.Heap (x % 32) = true ∧ nodeOkM (nodeOf m x) = true
theorem live_iff {m : Mem} {h : Int} (hl : isLiveM m h = true) : handleOk h = true ∧ stateM m (h % 32) = 3 ∧ genInM m.Heap (h % 32) = h / 32 := by
  simp only [isLiveM, Bool.and_eq_true, beq_iff_eq] at hl
  exact ⟨hl.1.1, hl.1.2, hl.2⟩
theorem good_len {m : Mem} {o : List Int} (h : Good m o) : o.length ≤ 24 := by
  have := nodup_lt 24 (o.map fun x => (x % 32).toNat) (by
    rw [List.Nodup, List.pairwise_map]
    refine List.Pairwise.imp_of_mem (fun {a b} ha hb hne e => hne ?_) h.1
    obtain ⟨a1, _, a3⟩ := live_iff (h.2 a ha).1
    obtain ⟨b1, _, b3⟩ := live_iff (h.2 b hb).1
    have e' : a % 32 = b % 32 := by omega
    rw [e', b3] at a3
    omega) (fun x hx => by
    obtain ⟨y, hy, rfl⟩ := List.mem_map.1 hx
    have := (handleOk_iff y).1 (live_iff (h.2 y hy).1).1
    omega)
  simpa using this
theorem stepOk_iff {m : Mem} {h : Int} {o : List Int} (hs : stepOk m h o = true) : isLiveM m h = true ∧ hasNodeM m.Heap (h % 32) = true ∧ h ∉ o ∧ nodeOkM (nodeOf m h) = true := by
  simp only [stepOk, Bool.and_eq_true, Bool.not_eq_true', List.any_eq_false, beq_iff_eq] at hs
  exact ⟨hs.1.1.1, hs.1.1.2, fun hm => hs.1.2 h hm rfl, hs.2⟩
theorem good_snoc {m : Mem} {h : Int} {o : List Int} (hg : Good m o) (hs : stepOk m h o = true) : Good m (o ++ [h]) := by
  obtain ⟨h1, h2, h3, h4⟩ := stepOk_iff hs
  refine ⟨List.nodup_append.2 ⟨hg.1, by simp, fun a ha b hb e => h3 (by rw [List.mem_singleton.1 hb] at e; exact e ▸ ha)⟩, fun x hx => ?_⟩
  rcases List.mem_append.1 hx with hx | hx
  · exact hg.2 x hx
  · rw [List.mem_singleton.1 hx]; exact ⟨h1, h2, h4⟩
theorem chainGo_good {m : Mem} : ∀ {f : Nat} {h : Int} {o l : List Int}, Good m o → chainGo m f h o = some l → Good m l
  | 0, h, o, l, hg, hc => by
    rw [chainGo] at hc
    split at hc
    · cases hc; exact hg
    · cases hc
  | f + 1, h, o, l, hg, hc => by
    by_cases h0 : h = 0
    · subst h0; rw [chainGo_zero] at hc; cases hc; exact hg
    · cases hs : stepOk m h o with
      | true => rw [chainGo_step h0 hs] at hc; exact chainGo_good (good_snoc hg hs) hc
      | false => rw [chainGo_bad h0 hs] at hc; cases hc
theorem chain_good (m : Mem) (head : Int) : (chainR m head).1 = [] ∨ (memOk m = true ∧ Good m (chainR m head).1) := by
  unfold chainR
  split
  · rename_i hm
    split
    · rename_i l hl
      exact .inr ⟨hm, chainGo_good ⟨List.nodup_nil, by simp⟩ hl⟩
    · exact .inl rfl
  · exact .inl rfl
theorem c42 (m : Mem) (hz : sizMem m ≤ 1048576) (hs : shapedM m.Heap = true) (h : Int) : Ctr Tryz.prog 42 [.agg ((encMem m).map .dat), .one (.dat (.int .i64 h))] [] (.one (.dat (.int .i64 (writableM m h)))) [] := by
  have hcl := c82 m hz hs h
  have hch := fun s => c83 m.Heap hs s
  simp only [encHeap, List.map_cons, List.map_nil] at hch
  simp only [encMem, List.map_cons, List.map_nil] at hcl ⊢
  cases hl : isLiveM m h with
  | false =>
    have hr : writableM m h = 4 := by simp [writableM, hl]
    rw [hr]
    refine Ctr.bd mixed Tryz.func42 rfl ?_
    refine evl ?_
    repeat ((with_reducible show _ ∧ _); refine scA ?_)
    first | refine CallK_pure e82 (hcl) rfl ?_ | refine EffK_pw e82 (hcl) rfl ?_ | refine EffK_pu e82 (hcl) rfl ?_ | refine CCallK_pl e82 (hcl) rfl rfl ?_ | refine CCallK_pm e82 (hcl) rfl rfl ?_
    simp (maxSteps := 2000000) only [go_sem, ↓reduceIte, reduceCtorEq, Nat.reduceAdd, Nat.reduceMul, Nat.reduceSub, Nat.reduceLT, Nat.reduceLeDiff, Nat.reduceEqDiff, Int.reduceToNat, Int.reduceLT, Int.reduceLE, Int.reduceNeg, hl]
    repeat ((with_reducible show _ ∧ _); refine scA ?_)
    refine Fin.nt Tryz.results42 [] ?_ ?_ ?_ <;> try trivial
  | true =>
    obtain ⟨ht, hd, hw⟩ := handle_pos (live_iff hl).1
    cases hn : hasNodeM m.Heap (h % 32) with
    | false =>
      have hr : writableM m h = 2 := by simp [writableM, hl, hn]
      rw [hr]
      refine Ctr.bd mixed Tryz.func42 rfl ?_
      refine evl ?_
      repeat ((with_reducible show _ ∧ _); refine scA ?_)
      first | refine CallK_pure e82 (hcl) rfl ?_ | refine EffK_pw e82 (hcl) rfl ?_ | refine EffK_pu e82 (hcl) rfl ?_ | refine CCallK_pl e82 (hcl) rfl rfl ?_ | refine CCallK_pm e82 (hcl) rfl rfl ?_
      simp (maxSteps := 2000000) only [go_sem, ↓reduceIte, reduceCtorEq, Nat.reduceAdd, Nat.reduceMul, Nat.reduceSub, Nat.reduceLT, Nat.reduceLeDiff, Nat.reduceEqDiff, Int.reduceToNat, Int.reduceLT, Int.reduceLE, Int.reduceNeg, hl, ht]
      repeat ((with_reducible show _ ∧ _); refine scA ?_)
      first | refine CallK_pure e83 (hch (h % 32)) rfl ?_ | refine EffK_pw e83 (hch (h % 32)) rfl ?_ | refine EffK_pu e83 (hch (h % 32)) rfl ?_ | refine CCallK_pl e83 (hch (h % 32)) rfl rfl ?_ | refine CCallK_pm e83 (hch (h % 32)) rfl rfl ?_
      simp (maxSteps := 2000000) only [go_sem, ↓reduceIte, reduceCtorEq, Nat.reduceAdd, Nat.reduceMul, Nat.reduceSub, Nat.reduceLT, Nat.reduceLeDiff, Nat.reduceEqDiff, Int.reduceToNat, Int.reduceLT, Int.reduceLE, Int.reduceNeg, hn]
      repeat ((with_reducible show _ ∧ _); refine scA ?_)
      refine Fin.nt Tryz.results42 [] ?_ ?_ ?_ <;> try trivial
    | true =>
      have hr : writableM m h = 0 := by simp [writableM, hl, hn]
      rw [hr]
      refine Ctr.bd mixed Tryz.func42 rfl ?_
      refine evl ?_
      repeat ((with_reducible show _ ∧ _); refine scA ?_)
      first | refine CallK_pure e82 (hcl) rfl ?_ | refine EffK_pw e82 (hcl) rfl ?_ | refine EffK_pu e82 (hcl) rfl ?_ | refine CCallK_pl e82 (hcl) rfl rfl ?_ | refine CCallK_pm e82 (hcl) rfl rfl ?_
      simp (maxSteps := 2000000) only [go_sem, ↓reduceIte, reduceCtorEq, Nat.reduceAdd, Nat.reduceMul, Nat.reduceSub, Nat.reduceLT, Nat.reduceLeDiff, Nat.reduceEqDiff, Int.reduceToNat, Int.reduceLT, Int.reduceLE, Int.reduceNeg, hl, ht]
      repeat ((with_reducible show _ ∧ _); refine scA ?_)
      first | refine CallK_pure e83 (hch (h % 32)) rfl ?_ | refine EffK_pw e83 (hch (h % 32)) rfl ?_ | refine EffK_pu e83 (hch (h % 32)) rfl ?_ | refine CCallK_pl e83 (hch (h % 32)) rfl rfl ?_ | refine CCallK_pm e83 (hch (h % 32)) rfl rfl ?_
      simp (maxSteps := 2000000) only [go_sem, ↓reduceIte, reduceCtorEq, Nat.reduceAdd, Nat.reduceMul, Nat.reduceSub, Nat.reduceLT, Nat.reduceLeDiff, Nat.reduceEqDiff, Int.reduceToNat, Int.reduceLT, Int.reduceLE, Int.reduceNeg, hn]
      repeat ((with_reducible show _ ∧ _); refine scA ?_)
      refine Fin.nt Tryz.results42 [] ?_ ?_ ?_ <;> try trivial
theorem c12 (m : Mem) (hz : sizMem m ≤ 1048576) (head : Int) : Ctr Tryz.prog 12 [.agg ((encMem m).map .dat), .one (.dat (.int .i64 head))] [] (.tup [.one (.own 0), .one (.dat (.bool (chainR m head).2))]) [.vec 1 true ((chainR m head).1.map encI)] := by
  have hmx : maxLen = 9223372036854775807 := rfl
  have hcm := c41 m hz
  have hcw := fun hs h => c42 m hz hs h
  have hcn := fun hs s hn => c44 m.Heap hs s hn
  simp only [encHeap, encNode, List.map_cons, List.map_nil] at hcn
  simp only [encMem, List.map_cons, List.map_nil] at hcm hcw ⊢
  cases hm : memOk m with
  | false =>
    have hr : chainR m head = ([], false) := by simp [chainR, hm]
    rw [hr]
    refine Ctr.bd mixed Tryz.func12 rfl ?_
    refine evl ?_
    repeat ((with_reducible show _ ∧ _); refine scA ?_)
    first | refine CallK_pure e41 (hcm) rfl ?_ | refine EffK_pw e41 (hcm) rfl ?_ | refine EffK_pu e41 (hcm) rfl ?_ | refine CCallK_pl e41 (hcm) rfl rfl ?_ | refine CCallK_pm e41 (hcm) rfl rfl ?_
    simp (maxSteps := 2000000) only [go_sem, ↓reduceIte, reduceCtorEq, Nat.reduceAdd, Nat.reduceMul, Nat.reduceSub, Nat.reduceLT, Nat.reduceLeDiff, Nat.reduceEqDiff, Int.reduceToNat, Int.reduceLT, Int.reduceLE, Int.reduceNeg, hm]
    repeat ((with_reducible show _ ∧ _); refine scA ?_)
    refine Fin.nt Tryz.results12 [1] ?_ ?_ ?_ <;> try trivial
    all_goals simp [objsLe, envLe, find, St.obj, AObj.renF, AV.renF, AV.renF1, Leaf.renF, LowAll, AV.Low, AV.Low1, Leaf.Low, AObj.Low, Ptr.renF, Ptr.Low]
  | true =>
    have hs := (memOk_heap hm).2.2
    have hr : chainR m head = (match chainGo m 25 head [] with
      | some l => (l, true)
      | none => ([], false)) := by simp [chainR, hm]
    refine Ctr.bd mixed Tryz.func12 rfl ?_
    refine evl ?_
    repeat ((with_reducible show _ ∧ _); refine scA ?_)
    first | refine CallK_pure e41 (hcm) rfl ?_ | refine EffK_pw e41 (hcm) rfl ?_ | refine EffK_pu e41 (hcm) rfl ?_ | refine CCallK_pl e41 (hcm) rfl rfl ?_ | refine CCallK_pm e41 (hcm) rfl rfl ?_
    simp (maxSteps := 2000000) only [go_sem, ↓reduceIte, reduceCtorEq, Nat.reduceAdd, Nat.reduceMul, Nat.reduceSub, Nat.reduceLT, Nat.reduceLeDiff, Nat.reduceEqDiff, Int.reduceToNat, Int.reduceLT, Int.reduceLE, Int.reduceNeg, hm]
    repeat ((with_reducible show _ ∧ _); refine scA ?_)
    refine LoopK_intro (fun zn zs => ∃ (o : List Int) (h : Int), zn = 25 - o.length ∧ (Good m o ∧ chainGo m 25 head [] = chainGo m (25 - o.length) h o) ∧ zs = mkSt [(2, .one (.ptr (.own 0 0 0))), (6, .one (.own 1)), (7, .one (.dat (.int .i64 h)))] [.box [.dat (.sl 1 (m.Heap.Bytes.map encI)), .dat (.sl 1 (m.Heap.Class.map encI)), .dat (.sl 1 (m.Lists.Global.map encSList)), .dat (.sl 1 (m.Lists.Own.map encSList))], .vec 1 true (o.map encI)]) _ _
      (Ent.wk [0, 1]) ⟨[], head, rfl, ⟨⟨List.nodup_nil, by simp⟩, rfl⟩, rfl⟩ ?_
    rintro zn zs ⟨o, h, rfl, hinv, rfl⟩ K hK
    obtain ⟨hg, hch⟩ := hinv
    have hle := good_len hg
    obtain ⟨f, hf⟩ : ∃ f, 25 - o.length = f + 1 := ⟨24 - o.length, by omega⟩
    rw [hf] at hch
    cases h0 : decide (h = 0) with
    | true =>
      have h0' := of_decide_eq_true h0
      subst h0'
      rw [chainGo_zero] at hch
      rw [hch] at hr
      have hb : ((0 : Int) != 0) = false := rfl
      simp (maxSteps := 2000000) only [go_sem, ↓reduceIte, reduceCtorEq, Nat.reduceAdd, Nat.reduceMul, Nat.reduceSub, Nat.reduceLT, Nat.reduceLeDiff, Nat.reduceEqDiff, Int.reduceToNat, Int.reduceLT, Int.reduceLE, Int.reduceNeg, hb]
      apply hK
      refine evl ?_
      rw [hr]
      refine Fin.nt Tryz.results12 [1] ?_ ?_ ?_ <;> try trivial
      all_goals simp [objsLe, envLe, find, St.obj, AObj.renF, AV.renF, AV.renF1, Leaf.renF, LowAll, AV.Low, AV.Low1, Leaf.Low, AObj.Low, Ptr.renF, Ptr.Low]
    | false =>
      have h0' := of_decide_eq_false h0
      have hb : (h != 0) = true := by simpa using h0'
      have hcc := c43 o (by omega) h
      simp (maxSteps := 2000000) only [go_sem, ↓reduceIte, reduceCtorEq, Nat.reduceAdd, Nat.reduceMul, Nat.reduceSub, Nat.reduceLT, Nat.reduceLeDiff, Nat.reduceEqDiff, Int.reduceToNat, Int.reduceLT, Int.reduceLE, Int.reduceNeg, hb]
      repeat ((with_reducible show _ ∧ _); refine scA ?_)
      first | refine CallK_pure e42 (hcw hs h) rfl ?_ | refine EffK_pw e42 (hcw hs h) rfl ?_ | refine EffK_pu e42 (hcw hs h) rfl ?_ | refine CCallK_pl e42 (hcw hs h) rfl rfl ?_ | refine CCallK_pm e42 (hcw hs h) rfl rfl ?_
      refine evl ?_
      repeat ((with_reducible show _ ∧ _); refine scA ?_)
      first | refine CallK_pure e43 (hcc) rfl ?_ | refine EffK_pw e43 (hcc) rfl ?_ | refine EffK_pu e43 (hcc) rfl ?_ | refine CCallK_pl e43 (hcc) rfl rfl ?_ | refine CCallK_pm e43 (hcc) rfl rfl ?_
      refine evl ?_
      repeat ((with_reducible show _ ∧ _); refine scA ?_)
      refine ⟨fun hq => ?_, fun hq => ?_⟩
      · rw [chainGo_bad h0' (step_a hq)] at hch
        rw [hch] at hr
        apply hK
        refine evl ?_
        rw [hr]
        refine Fin.ent (Ent.emp (t := 4) (sz := 1) rfl) ?_
        refine evl ?_
        refine Fin.nt Tryz.results12 [2] ?_ ?_ ?_ <;> try trivial
        all_goals simp [objsLe, envLe, find, St.obj, AObj.renF, AV.renF, AV.renF1, Leaf.renF, LowAll, AV.Low, AV.Low1, Leaf.Low, AObj.Low, Ptr.renF, Ptr.Low]
      obtain ⟨hlv, hnd, hso⟩ := step_b hq
      obtain ⟨ht, _, _⟩ := handle_pos (live_iff hlv).1
      repeat ((with_reducible show _ ∧ _); refine scA ?_)
      simp (maxSteps := 2000000) only [go_sem, ↓reduceIte, reduceCtorEq, Nat.reduceAdd, Nat.reduceMul, Nat.reduceSub, Nat.reduceLT, Nat.reduceLeDiff, Nat.reduceEqDiff, Int.reduceToNat, Int.reduceLT, Int.reduceLE, Int.reduceNeg, ht]
      repeat ((with_reducible show _ ∧ _); refine scA ?_)
      first | refine CallK_pure e44 (hcn hs (h % 32) hnd) rfl ?_ | refine EffK_pw e44 (hcn hs (h % 32) hnd) rfl ?_ | refine EffK_pu e44 (hcn hs (h % 32) hnd) rfl ?_ | refine CCallK_pl e44 (hcn hs (h % 32) hnd) rfl rfl ?_ | refine CCallK_pm e44 (hcn hs (h % 32) hnd) rfl rfl ?_
      refine evl ?_
      repeat ((with_reducible show _ ∧ _); refine scA ?_)
      first | refine CallK_pure e45 (c45 _ _ _) rfl ?_ | refine EffK_pw e45 (c45 _ _ _) rfl ?_ | refine EffK_pu e45 (c45 _ _ _) rfl ?_ | refine CCallK_pl e45 (c45 _ _ _) rfl rfl ?_ | refine CCallK_pm e45 (c45 _ _ _) rfl rfl ?_
      refine evl ?_
      repeat ((with_reducible show _ ∧ _); refine scA ?_)
      refine ⟨fun hq2 => ?_, fun hq2 => ?_⟩
      · have hb2 : stepOk m h o = false := by rw [hso]; exact not_t hq2
        rw [chainGo_bad h0' hb2] at hch
        rw [hch] at hr
        apply hK
        refine evl ?_
        rw [hr]
        refine Fin.ent (Ent.emp (t := 4) (sz := 1) rfl) ?_
        refine evl ?_
        refine Fin.nt Tryz.results12 [3] ?_ ?_ ?_ <;> try trivial
        all_goals simp [objsLe, envLe, find, St.obj, AObj.renF, AV.renF, AV.renF1, Leaf.renF, LowAll, AV.Low, AV.Low1, Leaf.Low, AObj.Low, Ptr.renF, Ptr.Low]
      · have hb2 : stepOk m h o = true := by rw [hso]; exact not_f hq2
        rw [chainGo_step h0' hb2] at hch
        have hg2 := good_snoc hg hb2
        have hch2 : chainGo m 25 head [] = chainGo m (25 - (o ++ [h]).length) (nodeInM m.Heap (h % 32)).Next (o ++ [h]) := by
          rw [hch, List.length_append]; congr 1; simp; omega
        repeat ((with_reducible show _ ∧ _); refine scA ?_)
        have hdec : 25 - (o ++ [h]).length < 25 - o.length := by rw [List.length_append, List.length_singleton]; omega
        (apply hK
         exact ⟨_, _, by exact hdec, Ent.wk [0, 4], (o ++ [h]), (nodeInM m.Heap (h % 32)).Next, rfl, ⟨hg2, hch2⟩, rfl⟩)
theorem spot_live {m : Mem} {h : Int} (hl : isLiveM m h = true) : spotM m h = if hasNodeM m.Heap (h % 32) = true then (startM m.Heap (h % 32), 0) else (0, 2) := by
  obtain ⟨h1, h2, _⟩ := live_iff hl
  have := state3_class h2
  rw [spotM, if_pos ⟨h1, this⟩]
theorem c38 (m : Mem) (hz : sizMem m ≤ 1048576) (hm : memOk m = true) (head : Int) : Ctr Tryz.prog 38 [.agg ((encMem m).map .dat), .one (.dat (.int .i64 head))] [] (.tup [.one (.own 0), .one (.dat (.bool (chainR m head).2))]) [.vec 1 true ((chainR m head).1.map encI)] := by
  have hmx : maxLen = 9223372036854775807 := rfl
  have hs := (memOk_heap hm).2.2
  have hcv := fun h => c54 m hz hs h
  have hcp := fun h => c55 m hs h
  have hcl := fun A h0 h1 => c76 m hs A h0 h1
  simp only [encNode, List.map_cons, List.map_nil] at hcl
  simp only [encMem, List.map_cons, List.map_nil] at hcv hcp hcl ⊢
  have hr : chainR m head = (match chainGo m 25 head [] with
    | some l => (l, true)
    | none => ([], false)) := by simp [chainR, hm]
  refine Ctr.bd mixed Tryz.func38 rfl ?_
  refine evl ?_
  repeat ((with_reducible show _ ∧ _); refine scA ?_)
  refine LoopK_intro (fun zn zs => ∃ (o : List Int) (h : Int), zn = 25 - o.length ∧ (Good m o ∧ chainGo m 25 head [] = chainGo m (25 - o.length) h o) ∧ zs = mkSt [(2, .one (.ptr (.own 0 0 0))), (6, .one (.own 1)), (7, .one (.dat (.int .i64 h)))] [.box [.dat (.sl 1 (m.Heap.Bytes.map encI)), .dat (.sl 1 (m.Heap.Class.map encI)), .dat (.sl 1 (m.Lists.Global.map encSList)), .dat (.sl 1 (m.Lists.Own.map encSList))], .vec 1 true (o.map encI)]) _ _
    (Ent.wk [0, 1]) ⟨[], head, rfl, ⟨⟨List.nodup_nil, by simp⟩, rfl⟩, rfl⟩ ?_
  rintro zn zs ⟨o, h, rfl, hinv, rfl⟩ K hK
  obtain ⟨hg, hch⟩ := hinv
  have hle := good_len hg
  obtain ⟨f, hf⟩ : ∃ f, 25 - o.length = f + 1 := ⟨24 - o.length, by omega⟩
  rw [hf] at hch
  cases h0 : decide (h = 0) with
  | true =>
    have h0' := of_decide_eq_true h0
    subst h0'
    rw [chainGo_zero] at hch
    rw [hch] at hr
    have hb : ((0 : Int) != 0) = false := rfl
    simp (maxSteps := 2000000) only [go_sem, ↓reduceIte, reduceCtorEq, Nat.reduceAdd, Nat.reduceMul, Nat.reduceSub, Nat.reduceLT, Nat.reduceLeDiff, Nat.reduceEqDiff, Int.reduceToNat, Int.reduceLT, Int.reduceLE, Int.reduceNeg, hb]
    apply hK
    refine evl ?_
    rw [hr]
    refine Fin.nt Tryz.results38 [1] ?_ ?_ ?_ <;> try trivial
    all_goals simp [objsLe, envLe, find, St.obj, AObj.renF, AV.renF, AV.renF1, Leaf.renF, LowAll, AV.Low, AV.Low1, Leaf.Low, AObj.Low, Ptr.renF, Ptr.Low]
  | false =>
    have h0' := of_decide_eq_false h0
    have hb : (h != 0) = true := by simpa using h0'
    have hcc := c67 o (by omega) h
    simp (maxSteps := 2000000) only [go_sem, ↓reduceIte, reduceCtorEq, Nat.reduceAdd, Nat.reduceMul, Nat.reduceSub, Nat.reduceLT, Nat.reduceLeDiff, Nat.reduceEqDiff, Int.reduceToNat, Int.reduceLT, Int.reduceLE, Int.reduceNeg, hb]
    repeat ((with_reducible show _ ∧ _); refine scA ?_)
    first | refine CallK_pure e54 (hcv h) rfl ?_ | refine EffK_pw e54 (hcv h) rfl ?_ | refine EffK_pu e54 (hcv h) rfl ?_ | refine CCallK_pl e54 (hcv h) rfl rfl ?_ | refine CCallK_pm e54 (hcv h) rfl rfl ?_
    refine evl ?_
    repeat ((with_reducible show _ ∧ _); refine scA ?_)
    first | refine CallK_pure e67 (hcc) rfl ?_ | refine EffK_pw e67 (hcc) rfl ?_ | refine EffK_pu e67 (hcc) rfl ?_ | refine CCallK_pl e67 (hcc) rfl rfl ?_ | refine CCallK_pm e67 (hcc) rfl rfl ?_
    refine evl ?_
    repeat ((with_reducible show _ ∧ _); refine scA ?_)
    refine ⟨fun hq => ?_, fun hq => ?_⟩
    · have hb2 : stepOk m h o = false := by
        simp only [stepOk]
        cases h1 : isLiveM m h with
        | false => rfl
        | true =>
          have hq : (o.any fun y => y == h) = true := by simpa [h1] using hq
          rw [hq]; simp
      rw [chainGo_bad h0' hb2] at hch
      rw [hch] at hr
      repeat ((with_reducible show _ ∧ _); refine scA ?_)
      apply hK
      refine evl ?_
      rw [hr]
      refine Fin.nt Tryz.results38 [2] ?_ ?_ ?_ <;> try trivial
      all_goals simp [objsLe, envLe, find, St.obj, AObj.renF, AV.renF, AV.renF1, Leaf.renF, LowAll, AV.Low, AV.Low1, Leaf.Low, AObj.Low, Ptr.renF, Ptr.Low]
    have hlv : isLiveM m h = true := by
      cases h1 : isLiveM m h with
      | true => rfl
      | false => rw [h1] at hq; cases hq
    have hni : (o.any fun y => y == h) = false := by rw [hlv] at hq; exact hq
    have hsp := spot_live hlv
    cases hnd : hasNodeM m.Heap (h % 32) with
    | false =>
      have hsp2 : spotM m h = (0, 2) := by rw [hsp, hnd]; rfl
      have hb2 : stepOk m h o = false := by simp only [stepOk, hnd, Bool.and_false, Bool.false_and]
      have hcp' := hcp h
      rw [hsp2] at hcp'
      rw [chainGo_bad h0' hb2] at hch
      rw [hch] at hr
      repeat ((with_reducible show _ ∧ _); refine scA ?_)
      first | refine CallK_pure e55 (hcp') rfl ?_ | refine EffK_pw e55 (hcp') rfl ?_ | refine EffK_pu e55 (hcp') rfl ?_ | refine CCallK_pl e55 (hcp') rfl rfl ?_ | refine CCallK_pm e55 (hcp') rfl rfl ?_
      refine evl ?_
      repeat ((with_reducible show _ ∧ _); refine scA ?_)
      have hb0 : ((2 : Int) != 0) = true := rfl
      simp (maxSteps := 2000000) only [go_sem, ↓reduceIte, reduceCtorEq, Nat.reduceAdd, Nat.reduceMul, Nat.reduceSub, Nat.reduceLT, Nat.reduceLeDiff, Nat.reduceEqDiff, Int.reduceToNat, Int.reduceLT, Int.reduceLE, Int.reduceNeg, hb0]
      repeat ((with_reducible show _ ∧ _); refine scA ?_)
      first | refine CCallK_of (.agg [.dat (.int .i64 0), .dat (.int .i64 0), .dat (.int .i64 0)]) ?_ | refine CCallK_og (.agg [.dat (.int .i64 0), .dat (.int .i64 0), .dat (.int .i64 0)]) ?_
      simp (maxSteps := 2000000) only [go_sem, ↓reduceIte, reduceCtorEq, Nat.reduceAdd, Nat.reduceMul, Nat.reduceSub, Nat.reduceLT, Nat.reduceLeDiff, Nat.reduceEqDiff, Int.reduceToNat, Int.reduceLT, Int.reduceLE, Int.reduceNeg, hb0]
      repeat ((with_reducible show _ ∧ _); refine scA ?_)
      first | refine CCallK_of (.one (.dat (.bool false))) ?_ | refine CCallK_og (.one (.dat (.bool false))) ?_
      simp (maxSteps := 2000000) only [go_sem, ↓reduceIte, reduceCtorEq, Nat.reduceAdd, Nat.reduceMul, Nat.reduceSub, Nat.reduceLT, Nat.reduceLeDiff, Nat.reduceEqDiff, Int.reduceToNat, Int.reduceLT, Int.reduceLE, Int.reduceNeg, hb0]
      repeat ((with_reducible show _ ∧ _); refine scA ?_)
      apply hK
      refine evl ?_
      rw [hr]
      refine Fin.nt Tryz.results38 [2] ?_ ?_ ?_ <;> try trivial
      all_goals simp [objsLe, envLe, find, St.obj, AObj.renF, AV.renF, AV.renF1, Leaf.renF, LowAll, AV.Low, AV.Low1, Leaf.Low, AObj.Low, Ptr.renF, Ptr.Low]
    | true =>
      have hsp2 : spotM m h = (startM m.Heap (h % 32), 0) := by rw [hsp, hnd]; rfl
      have hb2 : stepOk m h o = nodeOkM (nodeOf m h) := by simp only [stepOk, hnd, hlv, hni]; rfl
      have hcp' := hcp h
      rw [hsp2] at hcp'
      obtain ⟨_, hA0, hA1, _⟩ := start_bound hs hnd
      have hb0 : ((0 : Int) != 0) = false := rfl
      have hcl' := hcl (startM m.Heap (h % 32)) hA0 hA1
      rw [show loadNode m.Heap.Bytes (startM m.Heap (h % 32)).toNat = nodeOf m h from rfl] at hcl'
      repeat ((with_reducible show _ ∧ _); refine scA ?_)
      first | refine CallK_pure e55 (hcp') rfl ?_ | refine EffK_pw e55 (hcp') rfl ?_ | refine EffK_pu e55 (hcp') rfl ?_ | refine CCallK_pl e55 (hcp') rfl rfl ?_ | refine CCallK_pm e55 (hcp') rfl rfl ?_
      simp (maxSteps := 2000000) only [go_sem, ↓reduceIte, reduceCtorEq, Nat.reduceAdd, Nat.reduceMul, Nat.reduceSub, Nat.reduceLT, Nat.reduceLeDiff, Nat.reduceEqDiff, Int.reduceToNat, Int.reduceLT, Int.reduceLE, Int.reduceNeg, hb0]
      repeat ((with_reducible show _ ∧ _); refine scA ?_)
      first | refine CallK_pure e76 (hcl') rfl ?_ | refine EffK_pw e76 (hcl') rfl ?_ | refine EffK_pu e76 (hcl') rfl ?_ | refine CCallK_pl e76 (hcl') rfl rfl ?_ | refine CCallK_pm e76 (hcl') rfl rfl ?_
      simp (maxSteps := 2000000) only [go_sem, ↓reduceIte, reduceCtorEq, Nat.reduceAdd, Nat.reduceMul, Nat.reduceSub, Nat.reduceLT, Nat.reduceLeDiff, Nat.reduceEqDiff, Int.reduceToNat, Int.reduceLT, Int.reduceLE, Int.reduceNeg, hb0]
      repeat ((with_reducible show _ ∧ _); refine scA ?_)
      first | refine CallK_pure e64 (c64 _ _ _) rfl ?_ | refine EffK_pw e64 (c64 _ _ _) rfl ?_ | refine EffK_pu e64 (c64 _ _ _) rfl ?_ | refine CCallK_pl e64 (c64 _ _ _) rfl rfl ?_ | refine CCallK_pm e64 (c64 _ _ _) rfl rfl ?_
      simp (maxSteps := 2000000) only [go_sem, ↓reduceIte, reduceCtorEq, Nat.reduceAdd, Nat.reduceMul, Nat.reduceSub, Nat.reduceLT, Nat.reduceLeDiff, Nat.reduceEqDiff, Int.reduceToNat, Int.reduceLT, Int.reduceLE, Int.reduceNeg, hb0]
      refine ⟨fun hq2 => ?_, fun hq2 => ?_⟩
      · have hb3 : stepOk m h o = false := by rw [hb2]; exact not_t hq2
        rw [chainGo_bad h0' hb3] at hch
        rw [hch] at hr
        repeat ((with_reducible show _ ∧ _); refine scA ?_)
        apply hK
        refine evl ?_
        rw [hr]
        refine Fin.nt Tryz.results38 [2] ?_ ?_ ?_ <;> try trivial
        all_goals simp [objsLe, envLe, find, St.obj, AObj.renF, AV.renF, AV.renF1, Leaf.renF, LowAll, AV.Low, AV.Low1, Leaf.Low, AObj.Low, Ptr.renF, Ptr.Low]
      · have hb3 : stepOk m h o = true := by rw [hb2]; exact not_f hq2
        repeat ((with_reducible show _ ∧ _); refine scA ?_)
        first | refine CallK_pure e76 (hcl') rfl ?_ | refine EffK_pw e76 (hcl') rfl ?_ | refine EffK_pu e76 (hcl') rfl ?_ | refine CCallK_pl e76 (hcl') rfl rfl ?_ | refine CCallK_pm e76 (hcl') rfl rfl ?_
        refine evl ?_
        repeat ((with_reducible show _ ∧ _); refine scA ?_)
        rw [chainGo_step h0' hb3] at hch
        have hg2 := good_snoc hg hb3
        have hch2 : chainGo m 25 head [] = chainGo m (25 - (o ++ [h]).length) (nodeOf m h).Next (o ++ [h]) := by
          rw [hch, List.length_append]; congr 1; simp; omega
        have hdec : 25 - (o ++ [h]).length < 25 - o.length := by rw [List.length_append, List.length_singleton]; omega
        (apply hK
         exact ⟨_, _, by exact hdec, Ent.wk [0, 3], (o ++ [h]), (nodeOf m h).Next, rfl, ⟨hg2, hch2⟩, rfl⟩)
theorem c10 (m : Mem) (hz : sizMem m ≤ 1048576) (head : Int) : Ctr Tryz.prog 10 [.agg ((encMem m).map .dat), .one (.dat (.int .i64 head))] [] (.tup [.one (.own 0), .one (.dat (.bool (chainR m head).2))]) [.vec 1 true ((chainR m head).1.map encI)] := by
  have hcm := c37 m hz
  have hcc := fun hm => c38 m hz hm head
  simp only [encMem, List.map_cons, List.map_nil] at hcm hcc ⊢
  cases hm : memOk m with
  | false =>
    have hr : chainR m head = ([], false) := by simp [chainR, hm]
    rw [hr]
    refine Ctr.bd mixed Tryz.func10 rfl ?_
    refine evl ?_
    repeat ((with_reducible show _ ∧ _); refine scA ?_)
    first | refine CallK_pure e37 (hcm) rfl ?_ | refine EffK_pw e37 (hcm) rfl ?_ | refine EffK_pu e37 (hcm) rfl ?_ | refine CCallK_pl e37 (hcm) rfl rfl ?_ | refine CCallK_pm e37 (hcm) rfl rfl ?_
    simp (maxSteps := 2000000) only [go_sem, ↓reduceIte, reduceCtorEq, Nat.reduceAdd, Nat.reduceMul, Nat.reduceSub, Nat.reduceLT, Nat.reduceLeDiff, Nat.reduceEqDiff, Int.reduceToNat, Int.reduceLT, Int.reduceLE, Int.reduceNeg, hm]
    repeat ((with_reducible show _ ∧ _); refine scA ?_)
    refine Fin.nt Tryz.results10 [1] ?_ ?_ ?_ <;> try trivial
    all_goals simp [objsLe, envLe, find, St.obj, AObj.renF, AV.renF, AV.renF1, Leaf.renF, LowAll, AV.Low, AV.Low1, Leaf.Low, AObj.Low, Ptr.renF, Ptr.Low]
  | true =>
    refine Ctr.bd mixed Tryz.func10 rfl ?_
    refine evl ?_
    repeat ((with_reducible show _ ∧ _); refine scA ?_)
    first | refine CallK_pure e37 (hcm) rfl ?_ | refine EffK_pw e37 (hcm) rfl ?_ | refine EffK_pu e37 (hcm) rfl ?_ | refine CCallK_pl e37 (hcm) rfl rfl ?_ | refine CCallK_pm e37 (hcm) rfl rfl ?_
    simp (maxSteps := 2000000) only [go_sem, ↓reduceIte, reduceCtorEq, Nat.reduceAdd, Nat.reduceMul, Nat.reduceSub, Nat.reduceLT, Nat.reduceLeDiff, Nat.reduceEqDiff, Int.reduceToNat, Int.reduceLT, Int.reduceLE, Int.reduceNeg, hm]
    repeat ((with_reducible show _ ∧ _); refine scA ?_)
    first | refine CallK_pure e38 (hcc hm) rfl ?_ | refine EffK_pw e38 (hcc hm) rfl ?_ | refine EffK_pu e38 (hcc hm) rfl ?_ | refine CCallK_pl e38 (hcc hm) rfl rfl ?_ | refine CCallK_pm e38 (hcc hm) rfl rfl ?_
    refine evl ?_
    repeat ((with_reducible show _ ∧ _); refine scA ?_)
    refine Fin.nt Tryz.results10 [1] ?_ ?_ ?_ <;> try trivial
    all_goals simp [objsLe, envLe, find, St.obj, AObj.renF, AV.renF, AV.renF1, Leaf.renF, LowAll, AV.Low, AV.Low1, Leaf.Low, AObj.Low, Ptr.renF, Ptr.Low]
def seekGo (m : Mem) (key : Int) : Int → List Int → Int × Int
  | _, [] => (0, 0)
  | b, h :: l => if (nodeOf m h).Key = key then (h, b) else seekGo m key h l
def seekM (m : Mem) (head key : Int) : Int × Int := seekGo m key 0 (chainR m head).1
theorem chain_mem {m : Mem} {head h : Int} (hm : h ∈ (chainR m head).1) : memOk m = true ∧ isLiveM m h = true ∧ hasNodeM m.Heap (h % 32) = true := by
  rcases chain_good m head with e | ⟨h1, h2⟩
  · rw [e] at hm; cases hm
  · exact ⟨h1, (h2.2 h hm).1, (h2.2 h hm).2.1⟩
theorem chain_len (m : Mem) (head : Int) : (chainR m head).1.length ≤ 24 := by
  rcases chain_good m head with e | ⟨_, h2⟩
  · rw [e]; decide
  · exact good_len h2
theorem c50 (m : Mem) (hs : shapedM m.Heap = true) (h : Int) (hl : isLiveM m h = true) (hn : hasNodeM m.Heap (h % 32) = true) : Ctr Tryz.prog 50 [.agg ((encMem m).map .dat), .one (.dat (.int .i64 h))] [] (.agg ((encNode (nodeOf m h)).map .dat)) [] := by
  have hcp := c55 m hs h
  have hcl := fun A h0 h1 => c76 m hs A h0 h1
  have hsp2 : spotM m h = (startM m.Heap (h % 32), 0) := by rw [spot_live hl, hn]; rfl
  obtain ⟨_, hA0, hA1, _⟩ := start_bound hs hn
  have hb0 : ((0 : Int) != 0) = false := rfl
  rw [hsp2] at hcp
  have hcl' := hcl (startM m.Heap (h % 32)) hA0 hA1
  rw [show loadNode m.Heap.Bytes (startM m.Heap (h % 32)).toNat = nodeOf m h from rfl] at hcl'
  simp only [encMem, encNode, List.map_cons, List.map_nil] at hcp hcl' ⊢
  refine Ctr.bd mixed Tryz.func50 rfl ?_
  refine evl ?_
  repeat ((with_reducible show _ ∧ _); refine scA ?_)
  first | refine CallK_pure e55 (hcp) rfl ?_ | refine EffK_pw e55 (hcp) rfl ?_ | refine EffK_pu e55 (hcp) rfl ?_ | refine CCallK_pl e55 (hcp) rfl rfl ?_ | refine CCallK_pm e55 (hcp) rfl rfl ?_
  simp (maxSteps := 2000000) only [go_sem, ↓reduceIte, reduceCtorEq, Nat.reduceAdd, Nat.reduceMul, Nat.reduceSub, Nat.reduceLT, Nat.reduceLeDiff, Nat.reduceEqDiff, Int.reduceToNat, Int.reduceLT, Int.reduceLE, Int.reduceNeg, hb0]
  repeat ((with_reducible show _ ∧ _); refine scA ?_)
  first | refine CallK_pure e76 (hcl') rfl ?_ | refine EffK_pw e76 (hcl') rfl ?_ | refine EffK_pu e76 (hcl') rfl ?_ | refine CCallK_pl e76 (hcl') rfl rfl ?_ | refine CCallK_pm e76 (hcl') rfl rfl ?_
  refine evl ?_
  repeat ((with_reducible show _ ∧ _); refine scA ?_)
  refine Fin.nt Tryz.results50 [] ?_ ?_ ?_ <;> try trivial
def pairOf (m : Mem) (h : Int) : KV := ⟨(nodeOf m h).Key, (nodeOf m h).Val⟩
def pairsM (m : Mem) (head : Int) : List KV := (chainR m head).1.map (pairOf m)
theorem pairs_len (m : Mem) (head : Int) : (pairsM m head).length ≤ 24 := by
  rw [pairsM, List.length_map]; exact chain_len m head
theorem c19 (m : Mem) (hz : sizMem m ≤ 1048576) (head : Int) : Ctr Tryz.prog 19 [.agg ((encMem m).map .dat), .one (.dat (.int .i64 head))] [] (.one (.own 0)) [.vec 2 true ((pairsM m head).map encKV)] := by
  have hmx : maxLen = 9223372036854775807 := rfl
  have hcc := c12 m hz head
  have hcn := fun hs s hn => c44 m.Heap hs s hn
  have hall := fun h hm => chain_mem (m := m) (head := head) (h := h) hm
  have hlen := chain_len m head
  simp only [encHeap, encNode, List.map_cons, List.map_nil] at hcn
  simp only [encMem, List.map_cons, List.map_nil] at hcc ⊢
  unfold pairsM
  generalize (chainR m head).1 = l at hcc hall hlen ⊢
  refine Ctr.bd mixed Tryz.func19 rfl ?_
  refine evl ?_
  repeat ((with_reducible show _ ∧ _); refine scA ?_)
  first | refine CallK_pure e12 (hcc) rfl ?_ | refine EffK_pw e12 (hcc) rfl ?_ | refine EffK_pu e12 (hcc) rfl ?_ | refine CCallK_pl e12 (hcc) rfl rfl ?_ | refine CCallK_pm e12 (hcc) rfl rfl ?_
  refine evl ?_
  repeat ((with_reducible show _ ∧ _); refine scA ?_)
  refine LoopK_intro (fun zn zs => ∃ (i : Nat) (o : List KV), i ≤ l.length ∧ zn = l.length - i ∧ (l.map (pairOf m) = o ++ (l.drop i).map (pairOf m) ∧ o.length = i) ∧ zs = mkSt [(20, .one (.dat (.int .i64 i))), (19, .one (.dat (.int .i64 (l.length)))), (18, .one (.own 2)), (2, .one (.ptr (.own 0 0 0))), (5, .one (.own 1)), (1, .one (.dat (.int .i64 head)))] [.box [.dat (.sl 1 (m.Heap.Bytes.map encI)), .dat (.sl 1 (m.Heap.Class.map encI)), .dat (.sl 1 (m.Lists.Global.map encSList)), .dat (.sl 1 (m.Lists.Own.map encSList))], .vec 2 true (o.map encKV), .vec 1 true (l.map encI)]) (l.length) _
    (Ent.wk [0, 1, 2]) ⟨0, [], by omega, by omega, ⟨rfl, rfl⟩, rfl⟩ ?_
  rintro zn zs ⟨i, o, hi, rfl, hinv, rfl⟩ K hK
  rcases Nat.lt_or_ge i (l.length) with hlt | hge
  · have hdi : decide ((i : Int) < ((l.length : Nat) : Int)) = true := decide_eq_true (by omega)
    have hw := wrap_succ hlt (show l.length ≤ maxLen by omega)
    obtain ⟨hm, hlv, hnd⟩ := hall l[i] (List.getElem_mem hlt)
    obtain ⟨ht, _, _⟩ := handle_pos (live_iff hlv).1
    obtain ⟨hin, hol⟩ := hinv
    rw [List.drop_eq_getElem_cons hlt, List.map_cons] at hin
    simp (maxSteps := 2000000) only [go_sem, ↓reduceIte, reduceCtorEq, Nat.reduceAdd, Nat.reduceMul, Nat.reduceSub, Nat.reduceLT, Nat.reduceLeDiff, Nat.reduceEqDiff, Int.reduceToNat, Int.reduceLT, Int.reduceLE, Int.reduceNeg, hdi, hw, getD_map hlt, encI, List.length_map, ht]
    repeat ((with_reducible show _ ∧ _); refine scA ?_)
    first | refine CallK_pure e44 (hcn (memOk_heap hm).2.2 (l[i] % 32) hnd) rfl ?_ | refine EffK_pw e44 (hcn (memOk_heap hm).2.2 (l[i] % 32) hnd) rfl ?_ | refine EffK_pu e44 (hcn (memOk_heap hm).2.2 (l[i] % 32) hnd) rfl ?_ | refine CCallK_pl e44 (hcn (memOk_heap hm).2.2 (l[i] % 32) hnd) rfl rfl ?_ | refine CCallK_pm e44 (hcn (memOk_heap hm).2.2 (l[i] % 32) hnd) rfl rfl ?_
    simp (maxSteps := 2000000) only [go_sem, ↓reduceIte, reduceCtorEq, Nat.reduceAdd, Nat.reduceMul, Nat.reduceSub, Nat.reduceLT, Nat.reduceLeDiff, Nat.reduceEqDiff, Int.reduceToNat, Int.reduceLT, Int.reduceLE, Int.reduceNeg, hdi, hw, getD_map hlt, encI, List.length_map, ht]
    repeat ((with_reducible show _ ∧ _); refine scA ?_)
    (apply hK
     exact ⟨l.length - (i + 1), _, by omega, Ent.wk [0, 5, 2], i + 1, (o ++ [pairOf m l[i]]), by omega, rfl, ⟨by rw [List.append_assoc]; exact hin, by simp [hol]⟩, rfl⟩)
  · have hge' : l.length = i := by omega
    subst hge'
    have hdi : decide (((l.length : Nat) : Int) < ((l.length : Nat) : Int)) = false := by simp
    obtain ⟨hin, _⟩ := hinv
    rw [List.drop_length, List.map_nil, List.append_nil] at hin
    simp (maxSteps := 2000000) only [go_sem, ↓reduceIte, reduceCtorEq, Nat.reduceAdd, Nat.reduceMul, Nat.reduceSub, Nat.reduceLT, Nat.reduceLeDiff, Nat.reduceEqDiff, Int.reduceToNat, Int.reduceLT, Int.reduceLE, Int.reduceNeg, hdi, List.length_map]
    apply hK
    refine evl ?_
    rw [hin]
    refine Fin.nt Tryz.results19 [1] ?_ ?_ ?_ <;> try trivial
    all_goals simp [objsLe, envLe, find, St.obj, AObj.renF, AV.renF, AV.renF1, Leaf.renF, LowAll, AV.Low, AV.Low1, Leaf.Low, AObj.Low, Ptr.renF, Ptr.Low]
theorem c18 (m : Mem) (hz : sizMem m ≤ 1048576) (head : Int) : Ctr Tryz.prog 18 [.agg ((encMem m).map .dat), .one (.dat (.int .i64 head))] [] (.one (.own 0)) [.vec 2 true ((pairsM m head).map encKV)] := by
  have hmx : maxLen = 9223372036854775807 := rfl
  have hcc := c10 m hz head
  have hcn := fun hs h hl hn => c50 m hs h hl hn
  have hall := fun h hm => chain_mem (m := m) (head := head) (h := h) hm
  have hlen := chain_len m head
  simp only [encMem, encNode, List.map_cons, List.map_nil] at hcc hcn ⊢
  unfold pairsM
  generalize (chainR m head).1 = l at hcc hall hlen ⊢
  refine Ctr.bd mixed Tryz.func18 rfl ?_
  refine evl ?_
  repeat ((with_reducible show _ ∧ _); refine scA ?_)
  first | refine CallK_pure e10 (hcc) rfl ?_ | refine EffK_pw e10 (hcc) rfl ?_ | refine EffK_pu e10 (hcc) rfl ?_ | refine CCallK_pl e10 (hcc) rfl rfl ?_ | refine CCallK_pm e10 (hcc) rfl rfl ?_
  refine evl ?_
  repeat ((with_reducible show _ ∧ _); refine scA ?_)
  refine LoopK_intro (fun zn zs => ∃ (i : Nat) (o : List KV), i ≤ l.length ∧ zn = l.length - i ∧ (l.map (pairOf m) = o ++ (l.drop i).map (pairOf m) ∧ o.length = i) ∧ zs = mkSt [(8, .one (.dat (.int .i64 i))), (2, .one (.ptr (.own 0 0 0))), (5, .one (.own 1)), (6, .one (.own 2)), (1, .one (.dat (.int .i64 head)))] [.box [.dat (.sl 1 (m.Heap.Bytes.map encI)), .dat (.sl 1 (m.Heap.Class.map encI)), .dat (.sl 1 (m.Lists.Global.map encSList)), .dat (.sl 1 (m.Lists.Own.map encSList))], .vec 2 true (o.map encKV), .vec 1 true (l.map encI)]) (l.length) _
    (Ent.wk [0, 1, 2]) ⟨0, [], by omega, by omega, ⟨rfl, rfl⟩, rfl⟩ ?_
  rintro zn zs ⟨i, o, hi, rfl, hinv, rfl⟩ K hK
  rcases Nat.lt_or_ge i (l.length) with hlt | hge
  · have hdi : decide ((i : Int) < ((l.length : Nat) : Int)) = true := decide_eq_true (by omega)
    have hw := wrap_succ hlt (show l.length ≤ maxLen by omega)
    obtain ⟨hm, hlv, hnd⟩ := hall l[i] (List.getElem_mem hlt)
    obtain ⟨hin, hol⟩ := hinv
    rw [List.drop_eq_getElem_cons hlt, List.map_cons] at hin
    simp (maxSteps := 2000000) only [go_sem, ↓reduceIte, reduceCtorEq, Nat.reduceAdd, Nat.reduceMul, Nat.reduceSub, Nat.reduceLT, Nat.reduceLeDiff, Nat.reduceEqDiff, Int.reduceToNat, Int.reduceLT, Int.reduceLE, Int.reduceNeg, hdi, hw, getD_map hlt, encI, List.length_map]
    repeat ((with_reducible show _ ∧ _); refine scA ?_)
    first | refine CCallK_pl e50 (hcn (memOk_heap hm).2.2 l[i] hlv hnd) rfl rfl ?_ | refine CCallK_pm e50 (hcn (memOk_heap hm).2.2 l[i] hlv hnd) rfl rfl ?_
    simp (maxSteps := 2000000) only [go_sem, ↓reduceIte, reduceCtorEq, Nat.reduceAdd, Nat.reduceMul, Nat.reduceSub, Nat.reduceLT, Nat.reduceLeDiff, Nat.reduceEqDiff, Int.reduceToNat, Int.reduceLT, Int.reduceLE, Int.reduceNeg, hdi, hw, getD_map hlt, encI, List.length_map]
    repeat ((with_reducible show _ = true ∧ _); refine ⟨by kernel_rfl, ?_⟩)
    repeat ((with_reducible show _ ∧ _); refine scA ?_)
    (apply hK
     exact ⟨l.length - (i + 1), _, by omega, Ent.wk [0, 5, 2], i + 1, (o ++ [pairOf m l[i]]), by omega, rfl, ⟨by rw [List.append_assoc]; exact hin, by simp [hol]⟩, rfl⟩)
  · have hge' : l.length = i := by omega
    subst hge'
    have hdi : decide (((l.length : Nat) : Int) < ((l.length : Nat) : Int)) = false := by simp
    obtain ⟨hin, _⟩ := hinv
    rw [List.drop_length, List.map_nil, List.append_nil] at hin
    simp (maxSteps := 2000000) only [go_sem, ↓reduceIte, reduceCtorEq, Nat.reduceAdd, Nat.reduceMul, Nat.reduceSub, Nat.reduceLT, Nat.reduceLeDiff, Nat.reduceEqDiff, Int.reduceToNat, Int.reduceLT, Int.reduceLE, Int.reduceNeg, hdi, List.length_map]
    apply hK
    refine evl ?_
    rw [hin]
    refine Fin.nt Tryz.results18 [1] ?_ ?_ ?_ <;> try trivial
    all_goals simp [objsLe, envLe, find, St.obj, AObj.renF, AV.renF, AV.renF1, Leaf.renF, LowAll, AV.Low, AV.Low1, Leaf.Low, AObj.Low, Ptr.renF, Ptr.Low]
end Go.Proofs.YtacmmahhlognnaaGreat.Mod
