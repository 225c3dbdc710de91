/- FnExactTableAccounted: the program answers as the statement says, at every argument. -/
import Derived.Test.YtcanhdhlbghfiaaGreatRows
import Derived.Test.YtcanhdhlbghfiaaGreatCTy
import Derived.Test.YtcanhdhlbghfiaaGreatAbsTac
import Derived.Test.YtcanhdhlbghfiaaGreatAbsData
import Derived.Test.YtcanhdhlbghfiaaGreatWhole
import Derived.Test.YtcanhdhlbghfiaaGreatCBase
import Derived.Test.YtcanhdhlbghfiaaGreatCNum
import Derived.Test.YtcanhdhlbghfiaaGreatCFam
import Derived.Test.YtcanhdhlbghfiaaGreatCFam2
import Derived.Test.YtcanhdhlbghfiaaGreatCSok
import Derived.Test.YtcanhdhlbghfiaaGreatCSl
import Derived.Test.YtcanhdhlbghfiaaGreatCSl2
import Derived.Test.YtcanhdhlbghfiaaGreatCSl3
import Derived.Test.YtcanhdhlbghfiaaGreatCMap
import Derived.Test.YtcanhdhlbghfiaaGreatCHist
import Derived.Test.YtcanhdhlbghfiaaGreatCHeap
import Derived.Test.YtcanhdhlbghfiaaGreatCLists
import Derived.Test.YtcanhdhlbghfiaaGreatCStore
import Derived.Test.YtcanhdhlbghfiaaGreatCIdle
import Derived.Test.YtcanhdhlbghfiaaGreatCSame
import Derived.Test.YtcanhdhlbghfiaaGreatCValid
import Derived.Test.YtcanhdhlbghfiaaGreatCSorts
import Derived.WalkKit
import Derived.ProofKit
import Derived.OpenShut
namespace Go.Proofs.YtcanhdhlbghfiaaGreat.Mod
open Go.Proofs.Tryz Go.Abs Go.Proofs.YtcanhdhlbghfiaaGreat.Ty Go.ChangeShapes Go.WideShapes Go.ChangeAt Go.RowKit
set_option linter.unusedSimpArgs false
set_option linter.unusedVariables false
set_option maxHeartbeats 8000000
set_option maxRecDepth 100000
def writableM (m : Mem) (h : Int) : Int := if isLiveM m h = false then 4 else if hasNodeM m.Heap (h % 32) = false then 2 else 0
def nodeOkM (x : Node) : Bool := nodeOk x.Key x.Val x.Next
def nodeOf (m : Mem) (h : Int) : Node := nodeInM m.Heap (h % 32)
def stepOk (m : Mem) (h : Int) (o : List Int) : Bool := isLiveM m h && hasNodeM m.Heap (h % 32) && !(o.any fun y => y == h) && nodeOkM (nodeOf m h)
def chainGo (m : Mem) : Nat -> Int -> List Int -> Option (List Int)
 | f, h, o => if h = 0 then some o else match f with
  | 0 => none
  | f + 1 => if stepOk m h o = true then chainGo m f (nodeOf m h).Next (o ++ [h]) else none
def chainR (m : Mem) (head : Int) : List Int × Bool := if memOk m = true then (match chainGo m 25 head [] with
 | some l => (l, true)
 | none => ([], false)) else ([], false)
theorem chainGo_zero (m : Mem) (f : Nat) (o : List Int) : chainGo m f 0 o = some o := by
 unfold chainGo; simp
theorem chainGo_bad {m : Mem} {f : Nat} {h : Int} {o : List Int} (h0 : h ≠ 0) (hb : stepOk m h o = false) : chainGo m (f + 1) h o = none := by
 rw [chainGo]; simp [h0, hb]
theorem chainGo_step {m : Mem} {f : Nat} {h : Int} {o : List Int} (h0 : h ≠ 0) (hb : stepOk m h o = true) : chainGo m (f + 1) h o = chainGo m f (nodeOf m h).Next (o ++ [h]) := by
 rw [chainGo]; simp [h0, hb]
theorem nodup_lt : ∀ (n : Nat) (l : List Nat), l.Nodup -> (∀ x ∈ l, x < n) -> l.length <= n
 | 0, l, _, h => by
  cases l with
  | nil => exact Nat.le_refl _
  | cons x l => exact absurd (h x (by simp)) (Nat.not_lt_zero x)
 | n + 1, l, hn, h => by
  by_cases hm : n ∈ l
  ·have h1 := nodup_lt n (l.erase n) (hn.erase n) (fun x hx => by
    have h2 := (hn.mem_erase_iff).1 hx
    have := h x h2.2
    omega)
   rw [List.length_erase_of_mem hm] at h1
   omega
  ·have := nodup_lt n l hn (fun x hx => by
    have h1 := h x hx
    have : x ≠ n := fun e => hm (e ▸ hx)
    omega)
   omega
theorem step_a {m : Mem} {h : Int} {o : List Int} (hq : (bif (writableM m h != 0) then true else o.any fun y => y == h) = true) : stepOk m h o = false := by
 simp only [stepOk]
 cases h1 : isLiveM m h with
 | false => rfl
 | true =>
  cases h2 : hasNodeM m.Heap (h % 32) with
  | false => rfl
  | true =>
   have : writableM m h = 0 := by simp [writableM, h1, h2]
   rw [this] at hq
   have hq : (o.any fun y => y == h) = true := hq
   rw [hq]; rfl
theorem step_b {m : Mem} {h : Int} {o : List Int} (hq : (bif (writableM m h != 0) then true else o.any fun y => y == h) = false) : isLiveM m h = true /\ hasNodeM m.Heap (h % 32) = true /\ stepOk m h o = nodeOkM (nodeOf m h) := by
 cases h1 : isLiveM m h with
 | false =>
  have : writableM m h = 4 := by simp [writableM, h1]
  rw [this] at hq; cases hq
 | true =>
  cases h2 : hasNodeM m.Heap (h % 32) with
  | false =>
   have : writableM m h = 2 := by simp [writableM, h1, h2]
   rw [this] at hq; cases hq
  | true =>
   have : writableM m h = 0 := by simp [writableM, h1, h2]
   rw [this] at hq
   have hq : (o.any fun y => y == h) = false := hq
   exact ⟨rfl, rfl, by simp only [stepOk, h1, h2, hq]; rfl⟩
def Good (m : Mem) (o : List Int) : Prop := o.Nodup /\ ∀ x ∈ o, isLiveM m x = true /\ hasNodeM m.Heap (x % 32) = true /\ nodeOkM (nodeOf m x) = true
theorem live_iff {m : Mem} {h : Int} (hl : isLiveM m h = true) : handleOk h = true /\ stateM m (h % 32) = 3 /\ genInM m.Heap (h % 32) = h / 32 := by
 simp only [isLiveM, Bool.and_eq_true, beq_iff_eq] at hl
 exact ⟨hl.1.1, hl.1.2, hl.2⟩
theorem good_len {m : Mem} {o : List Int} (h : Good m o) : o.length <= 24 := by
 have := nodup_lt 24 (o.map fun x => (x % 32).toNat) (by
  rw [List.Nodup, List.pairwise_map]
  refine List.Pairwise.imp_of_mem (fun {a b} ha hb hne e => hne ?_) h.1
  obtain ⟨a1, _, a3⟩ := live_iff (h.2 a ha).1
  obtain ⟨b1, _, b3⟩ := live_iff (h.2 b hb).1
  have e' : a % 32 = b % 32 := by omega
  rw [e', b3] at a3
  omega) (fun x hx => by
  obtain ⟨y, hy, rfl⟩ := List.mem_map.1 hx
  have := (handleOk_iff y).1 (live_iff (h.2 y hy).1).1
  omega)
 simpa using this
theorem stepOk_iff {m : Mem} {h : Int} {o : List Int} (hs : stepOk m h o = true) : isLiveM m h = true /\ hasNodeM m.Heap (h % 32) = true /\ h ∉ o /\ nodeOkM (nodeOf m h) = true := by
 simp only [stepOk, Bool.and_eq_true, Bool.not_eq_true', List.any_eq_false, beq_iff_eq] at hs
 exact ⟨hs.1.1.1, hs.1.1.2, fun hm => hs.1.2 h hm rfl, hs.2⟩
theorem good_snoc {m : Mem} {h : Int} {o : List Int} (hg : Good m o) (hs : stepOk m h o = true) : Good m (o ++ [h]) := by
 obtain ⟨h1, h2, h3, h4⟩ := stepOk_iff hs
 refine ⟨List.nodup_append.2 ⟨hg.1, by simp, fun a ha b hb e => h3 (by rw [List.mem_singleton.1 hb] at e; exact e ▸ ha)⟩, fun x hx => ?_⟩
 rcases List.mem_append.1 hx with hx | hx
 ·exact hg.2 x hx
 ·rw [List.mem_singleton.1 hx]; exact ⟨h1, h2, h4⟩
theorem chainGo_good {m : Mem} : ∀ {f : Nat} {h : Int} {o l : List Int}, Good m o -> chainGo m f h o = some l -> Good m l
 | 0, h, o, l, hg, hc => by
  rw [chainGo] at hc
  split at hc
  ·cases hc; exact hg
  ·cases hc
 | f + 1, h, o, l, hg, hc => by
  by_cases h0 : h = 0
  ·subst h0; rw [chainGo_zero] at hc; cases hc; exact hg
  ·cases hs : stepOk m h o with
   | true => rw [chainGo_step h0 hs] at hc; exact chainGo_good (good_snoc hg hs) hc
   | false => rw [chainGo_bad h0 hs] at hc; cases hc
theorem chain_good (m : Mem) (head : Int) : (chainR m head).1 = [] \/ (memOk m = true /\ Good m (chainR m head).1) := by
 unfold chainR
 split
 ·rename_i hm
  split
  ·rename_i l hl
   exact .inr ⟨hm, chainGo_good ⟨List.nodup_nil, by simp⟩ hl⟩
  ·exact .inl rfl
 ·exact .inl rfl
theorem c326 (m : Mem) (hz : sizMem m <= 1048576) (hs : shapedM m.Heap = true) (h : Int) : Ctr prog 326 [.agg ((encMem m).map .dat), .one (.dat (.int .i64 h))] [] (.one (.dat (.int .i64 (writableM m h)))) [] := by
 have hcl := c80 m hz hs h
 have hch := fun s => c390 m.Heap hs s
 simp only [encHeap, List.map_cons, List.map_nil] at hch
 simp only [encMem, List.map_cons, List.map_nil] at hcl ⊢
 cases hl : isLiveM m h with
 | false =>
  have hr : writableM m h = 4 := by simp [writableM, hl]
  rw [hr]
  refine Ctr.bd mixed func326 rfl ?_
  refine evl ?_
  refine scs ?_
  refine ck e80 (hcl) rfl ?_
  simp (maxSteps := 2000000) only [go_sem, seval, hl]
  refine scs ?_
  refine Fin.nt results326 [] ?_ ?_ ?_ <;> try trivial
 | true =>
  obtain ⟨ht, hd, hw⟩ := handle_pos (live_iff hl).1
  cases hn : hasNodeM m.Heap (h % 32) with
  | false =>
   have hr : writableM m h = 2 := by simp [writableM, hl, hn]
   rw [hr]
   refine Ctr.bd mixed func326 rfl ?_
   refine evl ?_
   refine scs ?_
   refine ck e80 (hcl) rfl ?_
   refine sv45 ?_
   refine scs ?_
   refine ck e390 (hch (h % 32)) rfl ?_
   refine sv33 ?_
   refine scs ?_
   refine Fin.nt results326 [] ?_ ?_ ?_ <;> try trivial
  | true =>
   have hr : writableM m h = 0 := by simp [writableM, hl, hn]
   rw [hr]
   refine Ctr.bd mixed func326 rfl ?_
   refine evl ?_
   refine scs ?_
   refine ck e80 (hcl) rfl ?_
   refine sv45 ?_
   refine scs ?_
   refine ck e390 (hch (h % 32)) rfl ?_
   refine sv33 ?_
   refine scs ?_
   refine Fin.nt results326 [] ?_ ?_ ?_ <;> try trivial
theorem c204 (m : Mem) (hz : sizMem m <= 1048576) (head : Int) : Ctr prog 204 [.agg ((encMem m).map .dat), .one (.dat (.int .i64 head))] [] (.tup [.one (.own 0), .one (.dat (.bool (chainR m head).2))]) [.vec 1 true ((chainR m head).1.map encI)] := by
 have hmx : maxLen = 9223372036854775807 := rfl
 have hcm := c155 m hz
 have hcw := fun hs h => c326 m hz hs h
 have hcn := fun hs s hn => c94 m.Heap hs s hn
 simp only [encHeap, encNode, List.map_cons, List.map_nil] at hcn
 simp only [encMem, List.map_cons, List.map_nil] at hcm hcw ⊢
 cases hm : memOk m with
 | false =>
  have hr : chainR m head = ([], false) := by simp [chainR, hm]
  rw [hr]
  refine Ctr.bd mixed func204 rfl ?_
  refine evl ?_
  refine scs ?_
  refine ck e155 (hcm) rfl ?_
  refine sv46 ?_
  refine scs ?_
  refine Fin.nt results204 [1] ?_ ?_ ?_ <;> try trivial
  all_goals exact entd
 | true =>
  have hs := (memOk_heap hm).2.2
  have hr : chainR m head = (match chainGo m 25 head [] with
   | some l => (l, true)
   | none => ([], false)) := by simp [chainR, hm]
  refine Ctr.bd mixed func204 rfl ?_
  refine evl ?_
  refine scs ?_
  refine ck e155 (hcm) rfl ?_
  refine sv46 ?_
  refine scs ?_
  refine LoopK_intro (fun zn zs => ∃ (o : List Int) (h : Int), zn = 25 - o.length /\ (Good m o /\ chainGo m 25 head [] = chainGo m (25 - o.length) h o) /\ zs = mkSt [(2, .one (.ptr (.own 0 0 0))), (6, .one (.own 1)), (7, .one (.dat (.int .i64 h)))] [.box [.dat (.sl 1 (m.Heap.Bytes.map encI)), .dat (.sl 1 (m.Heap.Class.map encI)), .dat (.sl 1 (m.Lists.Global.map encSList)), .dat (.sl 1 (m.Lists.Own.map encSList))], .vec 1 true (o.map encI)]) _ _
   (Ent.wk [0, 1]) ⟨[], head, rfl, ⟨⟨List.nodup_nil, by simp⟩, rfl⟩, rfl⟩ ?_
  rintro zn zs ⟨o, h, rfl, hinv, rfl⟩ K hK
  obtain ⟨hg, hch⟩ := hinv
  have hle := good_len hg
  obtain ⟨f, hf⟩ : ∃ f, 25 - o.length = f + 1 := ⟨24 - o.length, by omega⟩
  rw [hf] at hch
  cases h0 : decide (h = 0) with
  | true =>
   have h0' := of_decide_eq_true h0
   subst h0'
   rw [chainGo_zero] at hch
   rw [hch] at hr
   have hb : ((0 : Int) != 0) = false := rfl
   refine sv47 ?_
   apply hK
   refine evl ?_
   rw [hr]
   refine Fin.nt results204 [1] ?_ ?_ ?_ <;> try trivial
   all_goals exact entd
  | false =>
   have h0' := of_decide_eq_false h0
   have hb : (h != 0) = true := by simpa using h0'
   have hcc := c168 o (by omega) h
   refine sv47 ?_
   refine scs ?_
   refine ck e326 (hcw hs h) rfl ?_
   refine evl ?_
   refine scs ?_
   refine ck e168 (hcc) rfl ?_
   refine evl ?_
   refine scs ?_
   constructor <;> intro hq
   ·rw [chainGo_bad h0' (step_a hq)] at hch
    rw [hch] at hr
    apply hK
    refine evl ?_
    rw [hr]
    refine Fin.ent (Ent.emp (t := 4) (sz := 1) rfl) ?_
    refine evl ?_
    refine Fin.nt results204 [2] ?_ ?_ ?_ <;> try trivial
    all_goals exact entd
   obtain ⟨hlv, hnd, hso⟩ := step_b hq
   obtain ⟨ht, _, _⟩ := handle_pos (live_iff hlv).1
   refine scs ?_
   simp (maxSteps := 2000000) only [go_sem, seval, ht]
   refine scs ?_
   refine ck e94 (hcn hs (h % 32) hnd) rfl ?_
   refine evl ?_
   refine scs ?_
   refine ck e327 (c327 _ _ _) rfl ?_
   refine evl ?_
   refine scs ?_
   constructor <;> intro hq2
   ·have hb2 : stepOk m h o = false := by rw [hso]; exact not_t hq2
    rw [chainGo_bad h0' hb2] at hch
    rw [hch] at hr
    apply hK
    refine evl ?_
    rw [hr]
    refine Fin.ent (Ent.emp (t := 4) (sz := 1) rfl) ?_
    refine evl ?_
    refine Fin.nt results204 [3] ?_ ?_ ?_ <;> try trivial
    all_goals exact entd
   ·have hb2 : stepOk m h o = true := by rw [hso]; exact not_f hq2
    rw [chainGo_step h0' hb2] at hch
    have hg2 := good_snoc hg hb2
    have hch2 : chainGo m 25 head [] = chainGo m (25 - (o ++ [h]).length) (nodeInM m.Heap (h % 32)).Next (o ++ [h]) := by
     rw [hch, List.length_append]; congr 1; simp; omega
    refine scs ?_
    have hdec : 25 - (o ++ [h]).length < 25 - o.length := by rw [List.length_append, List.length_singleton]; omega
    (apply hK
     exact ⟨_, _, by exact hdec, Ent.wk [0, 4], (o ++ [h]), (nodeInM m.Heap (h % 32)).Next, rfl, ⟨hg2, hch2⟩, rfl⟩)
theorem spot_live {m : Mem} {h : Int} (hl : isLiveM m h = true) : spotM m h = if hasNodeM m.Heap (h % 32) = true then (startM m.Heap (h % 32), 0) else (0, 2) := by
 obtain ⟨h1, h2, _⟩ := live_iff hl
 have := state3_class h2
 rw [spotM, if_pos ⟨h1, this⟩]
theorem c89 (m : Mem) (hz : sizMem m <= 1048576) (hm : memOk m = true) (head : Int) : Ctr prog 89 [.agg ((encMem m).map .dat), .one (.dat (.int .i64 head))] [] (.tup [.one (.own 0), .one (.dat (.bool (chainR m head).2))]) [.vec 1 true ((chainR m head).1.map encI)] := by
 have hmx : maxLen = 9223372036854775807 := rfl
 have hs := (memOk_heap hm).2.2
 have hcv := fun h => c77 m hz hs h
 have hcp := fun h => c201 m hs h
 have hcl := fun A h0 h1 => c203 m hs A h0 h1
 simp only [encNode, List.map_cons, List.map_nil] at hcl
 simp only [encMem, List.map_cons, List.map_nil] at hcv hcp hcl ⊢
 have hr : chainR m head = (match chainGo m 25 head [] with
  | some l => (l, true)
  | none => ([], false)) := by simp [chainR, hm]
 refine Ctr.bd mixed func89 rfl ?_
 refine evl ?_
 refine scs ?_
 refine LoopK_intro (fun zn zs => ∃ (o : List Int) (h : Int), zn = 25 - o.length /\ (Good m o /\ chainGo m 25 head [] = chainGo m (25 - o.length) h o) /\ zs = mkSt [(2, .one (.ptr (.own 0 0 0))), (6, .one (.own 1)), (7, .one (.dat (.int .i64 h)))] [.box [.dat (.sl 1 (m.Heap.Bytes.map encI)), .dat (.sl 1 (m.Heap.Class.map encI)), .dat (.sl 1 (m.Lists.Global.map encSList)), .dat (.sl 1 (m.Lists.Own.map encSList))], .vec 1 true (o.map encI)]) _ _
  (Ent.wk [0, 1]) ⟨[], head, rfl, ⟨⟨List.nodup_nil, by simp⟩, rfl⟩, rfl⟩ ?_
 rintro zn zs ⟨o, h, rfl, hinv, rfl⟩ K hK
 obtain ⟨hg, hch⟩ := hinv
 have hle := good_len hg
 obtain ⟨f, hf⟩ : ∃ f, 25 - o.length = f + 1 := ⟨24 - o.length, by omega⟩
 rw [hf] at hch
 cases h0 : decide (h = 0) with
 | true =>
  have h0' := of_decide_eq_true h0
  subst h0'
  rw [chainGo_zero] at hch
  rw [hch] at hr
  have hb : ((0 : Int) != 0) = false := rfl
  refine sv47 ?_
  apply hK
  refine evl ?_
  rw [hr]
  refine Fin.nt results89 [1] ?_ ?_ ?_ <;> try trivial
  all_goals exact entd
 | false =>
  have h0' := of_decide_eq_false h0
  have hb : (h != 0) = true := by simpa using h0'
  have hcc := c103 o (by omega) h
  refine sv47 ?_
  refine scs ?_
  refine ck e77 (hcv h) rfl ?_
  refine evl ?_
  refine scs ?_
  refine ck e103 (hcc) rfl ?_
  refine evl ?_
  refine scs ?_
  constructor <;> intro hq
  ·have hb2 : stepOk m h o = false := by
    simp only [stepOk]
    cases h1 : isLiveM m h with
    | false => rfl
    | true =>
     have hq : (o.any fun y => y == h) = true := by simpa [h1] using hq
     rw [hq]; simp
   rw [chainGo_bad h0' hb2] at hch
   rw [hch] at hr
   refine scs ?_
   apply hK
   refine evl ?_
   rw [hr]
   refine Fin.nt results89 [2] ?_ ?_ ?_ <;> try trivial
   all_goals exact entd
  have hlv : isLiveM m h = true := by
   cases h1 : isLiveM m h with
   | true => rfl
   | false => rw [h1] at hq; cases hq
  have hni : (o.any fun y => y == h) = false := by rw [hlv] at hq; exact hq
  have hsp := spot_live hlv
  cases hnd : hasNodeM m.Heap (h % 32) with
  | false =>
   have hsp2 : spotM m h = (0, 2) := by rw [hsp, hnd]; rfl
   have hb2 : stepOk m h o = false := by simp only [stepOk, hnd, Bool.and_false, Bool.false_and]
   have hcp' := hcp h
   rw [hsp2] at hcp'
   rw [chainGo_bad h0' hb2] at hch
   rw [hch] at hr
   refine scs ?_
   refine ck e201 (hcp') rfl ?_
   refine evl ?_
   refine scs ?_
   have hb0 : ((2 : Int) != 0) = true := rfl
   refine sv48 ?_
   refine scs ?_
   first | refine CCallK_of (.agg [.dat (.int .i64 0), .dat (.int .i64 0), .dat (.int .i64 0)]) ?_ | refine CCallK_og (.agg [.dat (.int .i64 0), .dat (.int .i64 0), .dat (.int .i64 0)]) ?_
   refine sv48 ?_
   refine scs ?_
   first | refine CCallK_of (.one (.dat (.bool false))) ?_ | refine CCallK_og (.one (.dat (.bool false))) ?_
   refine sv48 ?_
   refine scs ?_
   apply hK
   refine evl ?_
   rw [hr]
   refine Fin.nt results89 [2] ?_ ?_ ?_ <;> try trivial
   all_goals exact entd
  | true =>
   have hsp2 : spotM m h = (startM m.Heap (h % 32), 0) := by rw [hsp, hnd]; rfl
   have hb2 : stepOk m h o = nodeOkM (nodeOf m h) := by simp only [stepOk, hnd, hlv, hni]; rfl
   have hcp' := hcp h
   rw [hsp2] at hcp'
   obtain ⟨_, hA0, hA1, _⟩ := start_bound hs hnd
   have hb0 : ((0 : Int) != 0) = false := rfl
   have hcl' := hcl (startM m.Heap (h % 32)) hA0 hA1
   rw [show loadNode m.Heap.Bytes (startM m.Heap (h % 32)).toNat = nodeOf m h from rfl] at hcl'
   refine scs ?_
   refine ck e201 (hcp') rfl ?_
   refine sv48 ?_
   refine scs ?_
   refine ck e203 (hcl') rfl ?_
   refine sv48 ?_
   refine scs ?_
   refine ck e202 (c202 _ _ _) rfl ?_
   refine sv48 ?_
   constructor <;> intro hq2
   ·have hb3 : stepOk m h o = false := by rw [hb2]; exact not_t hq2
    rw [chainGo_bad h0' hb3] at hch
    rw [hch] at hr
    refine scs ?_
    apply hK
    refine evl ?_
    rw [hr]
    refine Fin.nt results89 [2] ?_ ?_ ?_ <;> try trivial
    all_goals exact entd
   ·have hb3 : stepOk m h o = true := by rw [hb2]; exact not_f hq2
    refine scs ?_
    refine ck e203 (hcl') rfl ?_
    refine evl ?_
    refine scs ?_
    rw [chainGo_step h0' hb3] at hch
    have hg2 := good_snoc hg hb3
    have hch2 : chainGo m 25 head [] = chainGo m (25 - (o ++ [h]).length) (nodeOf m h).Next (o ++ [h]) := by
     rw [hch, List.length_append]; congr 1; simp; omega
    have hdec : 25 - (o ++ [h]).length < 25 - o.length := by rw [List.length_append, List.length_singleton]; omega
    (apply hK
     exact ⟨_, _, by exact hdec, Ent.wk [0, 3], (o ++ [h]), (nodeOf m h).Next, rfl, ⟨hg2, hch2⟩, rfl⟩)
theorem c228 (l : List Int) (hl : l.length <= 1048576) : Ctr prog 228 [.one (.dat (.sl 1 (l.map encI)))] [] (.one (.own 0)) [.vec 1 true (l.map encI)] := by
 have hfl : ∀ r ∈ l.map encI, ∀ d ∈ r, d.flat = true := by
  intro r hr d hd
  obtain ⟨y, _, rfl⟩ := List.mem_map.1 hr
  simp only [encI, List.mem_cons, List.not_mem_nil, or_false] at hd
  subst hd; rfl
 refine Ctr.bd mixed func228 rfl ?_
 refine sv14 ?_
 refine scs ?_
 refine Fin.nt results228 [1] ?_ ?_ ?_ <;> try trivial
 all_goals exact entd
def effPin (p : Pin) : Bool := p.On && !p.Marked
theorem c101 (p : Pin) : Ctr prog 101 [.agg ((encPin p).map .dat)] [] (.one (.dat (.bool (effPin p)))) [] := by
 simp only [encPin, List.map_cons, List.map_nil]
 refine Ctr.bd mixed func101 rfl ?_
 refine evl ?_
 refine scs ?_
 refine Fin.nt results101 [] ?_ ?_ ?_ <;> try trivial
 (refine rsl ?_; try exact .intro)
 simp only [effPin]
 cases p.On <;> rfl
def tGuards (j : TJob) (p : Pin) : Bool := j.Busy && (within j.Pc 3 4 && effPin p)
def gGo : List TJob -> List Pin -> List Int
 | j :: J, p :: Ps => if tGuards j p then j.H :: gGo J Ps else gGo J Ps
 | _, _ => []
theorem gGo_nil (Ps : List Pin) : gGo [] Ps = [] := by cases Ps <;> rfl
theorem gGo_len : ∀ (J : List TJob) (Ps : List Pin), (gGo J Ps).length <= J.length
 | [], _ => by simp [gGo]
 | j :: J, [] => by simp [gGo]
 | j :: J, p :: Ps => by
  have := gGo_len J Ps
  rw [gGo]
  split <;> simp <;> omega
def nz (l : List Int) : List Int := l.filter fun n => !(n == 0)
theorem nz_cons (x : Int) (l : List Int) : nz (x :: l) = if x = 0 then nz l else x :: nz l := by
 unfold nz
 by_cases h : x = 0 <;> simp [h]
theorem nz_app (a b : List Int) : nz (a ++ b) = nz a ++ nz b := by simp [nz]
theorem nz_len (l : List Int) : (nz l).length <= l.length := List.length_filter_le ..
def guardedM (t : Table) : List Int := bif tableOk t then gGo t.Jobs t.Base.Clock.Pins else []
def tguardedM (t : Table) : List Int := ascN (guardedM t)
theorem ascN_nz (l : List Int) : ascN l = putsN [] (nz l) := rfl
theorem clockOk_len {c : Clock} (h : clockOk c = true) : c.Pins.length = 3 := by
 simp only [clockOk, Bool.and_eq_true, decide_eq_true_eq] at h
 omega
theorem guardedM_len {t : Table} (h : tableOk t = true) : (guardedM t).length <= 3 := by
 obtain ⟨_, _, h3, _⟩ := tableOk_parts h
 have := gGo_len t.Jobs t.Base.Clock.Pins
 rw [guardedM, h]
 simp only [cond_true]
 omega
theorem tguardedM_len (t : Table) : (tguardedM t).length <= 3 := by
 have := ascN_len (guardedM t)
 unfold tguardedM
 cases h : tableOk t with
 | false =>
  have hg : guardedM t = [] := by rw [guardedM, h]; rfl
  rw [hg]; decide
 | true => have := guardedM_len h; omega
def pc1 (j : TJob) : Bool := within j.Pc 6 8 || (j.Pc == 16 || j.Pc == 17)
def pendM (j : TJob) : List Int :=
 bif pc1 j then j.New
 else bif within j.Pc 9 13 then j.New.drop (min (cntPut (j.Writes.take j.K.toNat)) j.New.length) ++ j.Olds
 else bif j.Pc == 14 then j.Olds
 else bif j.Pc == 15 then j.Olds.drop (min j.K.toNat j.Olds.length)
 else []
theorem pendM_sub (j : TJob) : ∀ x ∈ pendM j, x ∈ j.New \/ x ∈ j.Olds := by
 intro x
 unfold pendM
 cases pc1 j <;> cases within j.Pc 9 13 <;> cases j.Pc == 14 <;> cases j.Pc == 15 <;> simp only [cond_true, cond_false, List.mem_append, List.not_mem_nil] <;> intro h
 all_goals first | exact .inl h | exact .inr h | exact h.elim | exact .inr (List.mem_of_mem_drop h) | exact h.imp List.mem_of_mem_drop id
theorem pendM_len (j : TJob) : (pendM j).length <= j.New.length + j.Olds.length := by
 unfold pendM
 cases pc1 j <;> cases within j.Pc 9 13 <;> cases j.Pc == 14 <;> cases j.Pc == 15 <;> simp <;> omega
theorem min_go (a b : Nat) : (if (b : Int) < (a : Int) then (b : Int) else (a : Int)) = ((min a b : Nat) : Int) := by split <;> omega
theorem min_go2 (k : Int) (b : Nat) (h : 0 <= k) : (if (b : Int) < k then (b : Int) else k) = ((min k.toNat b : Nat) : Int) := by split <;> omega
theorem min_go3 (k : Int) (b : Nat) (h : 0 <= k) : (if k < (b : Int) then k else (b : Int)) = ((min k.toNat b : Nat) : Int) := by split <;> omega
theorem drop_take_map (l : List Int) (k : Nat) : List.take (l.length - k) (List.drop k (l.map encI)) = (l.drop k).map encI := by
 rw [<- List.map_drop, List.take_of_length_le (by simp)]
theorem fewH_iff {l : List Int} (h : fewH l = true) : l.length <= 6 /\ ∀ x ∈ l, handleOk x = true := by
 simp only [fewH, Bool.and_eq_true, decide_eq_true_eq, List.all_eq_true] at h
 exact ⟨by omega, h.2⟩
theorem tjob_parts {j : TJob} (h : tjobOk j = true) : 0 <= j.K /\ j.New.length <= 6 /\ j.Olds.length <= 6 /\ ∀ x ∈ pendM j, handleOk x = true := by
 unfold tjobOk at h
 cases hb : j.Busy with
 | true =>
  rw [hb] at h
  simp only [cond_true, jobOn, Bool.and_eq_true] at h
  obtain ⟨_, _, _, _, _, hk, hn, ho, _⟩ := h
  obtain ⟨n1, n2⟩ := fewH_iff hn
  obtain ⟨o1, o2⟩ := fewH_iff ho
  refine ⟨by simp only [within, decide_eq_true_eq] at hk; omega, n1, o1, fun x hx => (pendM_sub j x hx).elim (n2 x) (o2 x)⟩
 | false =>
  rw [hb] at h
  have : j = zeroTJob := by simpa using h
  subst this
  exact ⟨Int.le_refl _, by decide, by decide, fun x hx => (pendM_sub _ x hx).elim (fun h => by cases h) (fun h => by cases h)⟩
theorem handle_ne {x : Int} (h : handleOk x = true) : x ≠ 0 := by
 have := (handleOk_iff x).1 h; omega
theorem nz_handles {l : List Int} (h : ∀ x ∈ l, handleOk x = true) : nz l = l := by
 unfold nz
 rw [List.filter_eq_self.2]
 intro x hx
 have := handle_ne (h x hx)
 simp [this]
def pendGo : List TJob -> List Int
 | [] => []
 | j :: J => (bif j.Busy then pendM j else []) ++ pendGo J
theorem pendGo_len : ∀ (J : List TJob), (∀ j ∈ J, tjobOk j = true) -> (pendGo J).length <= 12 * J.length
 | [], _ => by simp [pendGo]
 | j :: J, h => by
  have h1 := pendGo_len J fun x hx => h x (List.mem_cons_of_mem _ hx)
  obtain ⟨_, h2, h3, _⟩ := tjob_parts (h j (by simp))
  have h4 := pendM_len j
  rw [pendGo, List.length_append, List.length_cons]
  cases j.Busy
  ·simp; omega
  ·simp only [cond_true]; omega
theorem pendGo_ok : ∀ (J : List TJob), (∀ j ∈ J, tjobOk j = true) -> ∀ x ∈ pendGo J, handleOk x = true
 | [], _, x, hx => by simp [pendGo] at hx
 | j :: J, h, x, hx => by
  rw [pendGo, List.mem_append] at hx
  rcases hx with hx | hx
  ·cases hb : j.Busy with
   | true => rw [hb] at hx; exact (tjob_parts (h j (by simp))).2.2.2 x hx
   | false => rw [hb] at hx; cases hx
  ·exact pendGo_ok J (fun y hy => h y (List.mem_cons_of_mem _ hy)) x hx
def pendAll (t : Table) : List Int := bif tableOk t then pendGo t.Jobs else []
def pendingM (t : Table) : List Int := ascN (pendAll t)
theorem pendAll_len (t : Table) : (pendAll t).length <= 36 := by
 unfold pendAll
 cases h : tableOk t with
 | false => simp
 | true =>
  obtain ⟨_, _, h3, h4, _⟩ := tableOk_parts h
  have := pendGo_len t.Jobs h4
  rw [h3] at this
  exact this
theorem pendAll_ok (t : Table) : ∀ x ∈ pendAll t, handleOk x = true := by
 unfold pendAll
 cases h : tableOk t with
 | false => intro x hx; cases hx
 | true => exact pendGo_ok t.Jobs (tableOk_parts h).2.2.2.1
theorem pendingM_len (t : Table) : (pendingM t).length <= 36 := Nat.le_trans (ascN_len _) (pendAll_len t)
theorem pc1_a {j : TJob} {b : Bool} (h : (bif within j.Pc 6 8 then true else bif j.Pc == 16 then true else j.Pc == 17) = b) : pc1 j = b := by
 rw [<- h, pc1]; cases within j.Pc 6 8 <;> cases j.Pc == 16 <;> rfl
theorem pc1_b {j : TJob} {b : Bool} (h : (bif bif within j.Pc 6 8 then true else j.Pc == 16 then true else j.Pc == 17) = b) : pc1 j = b := by
 rw [<- h, pc1]; cases within j.Pc 6 8 <;> cases j.Pc == 16 <;> rfl
theorem c110 (j : TJob) (hs : j.sok) (hk : 0 <= j.K) (hn : j.New.length <= 6) (ho : j.Olds.length <= 6) : CtrB prog 110 [.agg ((encTJob j).map .dat)] (.one (.dat (.sl 1 ((pendM j).map encI)))) [] := by
 have hmx : maxLen = 9223372036854775807 := rfl
 obtain ⟨⟨hb, _⟩, h1, h2, h3, h4, h5, h6, _⟩ := hs
 have hcp := c229 j.Writes (by omega) j.K
 have hm1 := min_go (cntPut (j.Writes.take j.K.toNat)) j.New.length
 have hm2 := min_go2 j.K j.Olds.length hk
 have hd1 := drop_take_map j.New (min (cntPut (j.Writes.take j.K.toNat)) j.New.length)
 have hd2 := drop_take_map j.Olds (min j.K.toNat j.Olds.length)
 have hcc := c107 [j.New.drop (min (cntPut (j.Writes.take j.K.toNat)) j.New.length), j.Olds] (by simp) (by simp [sumIL]; omega)
 simp only [encIL, List.map_cons, List.map_nil, List.flatten_cons, List.flatten_nil, List.append_nil] at hcc
 simp only [encTJob, List.map_cons, List.map_nil]
 refine CtrB.body mixed func110 rfl (by kernel_rfl) (Nat.le_of_ble_eq_true rfl) (by simp [AV.isDat, Leaf.isDat]) (by simp [AV.Sh, AV.Sh1, Leaf.Sh]) (by simp [AObj.IsVec]) (by simp [AV.up, AV.up1, Leaf.up, AV.Low, AV.Low1, Leaf.Low]) (fun bl => ?_)
 refine sv34 ?_
 refine scs ?_
 refine ck e73 (c73 j.Pc 6 8) rfl ?_
 refine sv34 ?_
 refine scs ?_
 constructor <;> intro hq
 ·have hc := pc1_b hq
  rw [pendM, hc]
  refine Fin.nt results110 [0] ?_ ?_ ?_ <;> try trivial
  all_goals exact entd
 have hc1 := pc1_b hq
 clear hq
 refine ck e73 (c73 j.Pc 9 13) rfl ?_
 refine sv34 ?_
 refine scs ?_
 constructor <;> intro hq
 ·rw [pendM, hc1, hq]
  refine ck e229 (hcp) rfl ?_
  simp (maxSteps := 2000000) only [go_sem, seval, List.append_eq, hm1, hd1]
  refine ⟨⟨by omega, by omega, by omega⟩, by kernel_rfl, ?_⟩
  refine ck e107 (hcc) rfl ?_
  refine sv34 ?_
  refine Fin.ent (Ent.toDat (t := 2) (o := 3) rfl rfl) ?_
  refine sv34 ?_
  refine Fin.nt results110 [0] ?_ ?_ ?_ <;> try trivial
  all_goals exact entd
 constructor <;> intro hq2
 ·rw [pendM, hc1, hq, hq2]
  refine Fin.nt results110 [0] ?_ ?_ ?_ <;> try trivial
  all_goals exact entd
 constructor <;> intro hq3
 ·rw [pendM, hc1, hq, hq2, hq3]
  refine sv49 ?_
  refine ⟨⟨by omega, by omega, by omega⟩, ?_⟩
  refine Fin.nt results110 [0] ?_ ?_ ?_ <;> try trivial
  all_goals exact entd
 ·rw [pendM, hc1, hq, hq2, hq3]
  refine Fin.ent (Ent.empDat 1 (t := 2) rfl) ?_
  refine sv34 ?_
  refine Fin.nt results110 [0] ?_ ?_ ?_ <;> try trivial
  all_goals exact entd
theorem c109 (j : TJob) (hs : j.sok) (hk : 0 <= j.K) (hn : j.New.length <= 6) (ho : j.Olds.length <= 6) : Ctr prog 109 [.agg ((encTJob j).map .dat)] [] (.one (.own 0)) [.vec 1 true ((pendM j).map encI)] := by
 have hmx : maxLen = 9223372036854775807 := rfl
 obtain ⟨⟨hb, _⟩, h1, h2, h3, h4, h5, h6, _⟩ := hs
 have hcp := c227 j.Writes (by omega) j.K
 have hm1 : (if (cntPut (j.Writes.take j.K.toNat) : Int) < (j.New.length : Int) then (cntPut (j.Writes.take j.K.toNat) : Int) else (j.New.length : Int)) = ((min (cntPut (j.Writes.take j.K.toNat)) j.New.length : Nat) : Int) := by split <;> omega
 have hm2 := min_go3 j.K j.Olds.length hk
 have hd1 := drop_take_map j.New (min (cntPut (j.Writes.take j.K.toNat)) j.New.length)
 have hd2 := drop_take_map j.Olds (min j.K.toNat j.Olds.length)
 have hce := c228 [] (by simp)
 have hcn := c228 j.New (by omega)
 have hcd := c228 (j.New.drop (min (cntPut (j.Writes.take j.K.toNat)) j.New.length)) (by simp; omega)
 have hfl : ∀ L : List Int, ∀ r ∈ L.map encI, ∀ d ∈ r, d.flat = true := by
  intro L r hr d hd
  obtain ⟨y, _, rfl⟩ := List.mem_map.1 hr
  simp only [encI, List.mem_cons, List.not_mem_nil, or_false] at hd
  subst hd; rfl
 simp only [List.map_nil] at hce
 simp only [encTJob, List.map_cons, List.map_nil]
 refine Ctr.bd mixed func109 rfl ?_
 refine sv34 ?_
 refine scs ?_
 refine ck e57 (c57 j.Pc 6 8) rfl ?_
 refine sv34 ?_
 refine scs ?_
 constructor <;> intro hq
 ·have hc := pc1_b hq
  rw [pendM, hc, cond_true]
  refine ck e228 (hcn) rfl ?_
  refine sv50 ?_
  refine ⟨⟨by simp, by simp, by omega, by omega⟩, ?_⟩
  refine Fin.nt results109 [4] ?_ ?_ ?_ <;> try trivial
  all_goals exact entd
 have hc1 := pc1_b hq
 clear hq
 refine ck e57 (c57 j.Pc 9 13) rfl ?_
 refine sv50 ?_
 refine scs ?_
 constructor <;> intro hq
 ·rw [pendM, hc1, hq, cond_false, cond_true]
  first | refine CCallK_pl e227 (hcp) rfl rfl ?_ | refine CCallK_pm e227 (hcp) rfl rfl ?_
  simp (maxSteps := 2000000) only [go_sem, seval, List.append_eq, List.append_nil, List.nil_append, hm1, hd1]
  refine ⟨⟨by omega, by omega, by omega⟩, ?_⟩
  refine ck e228 (hcd) rfl ?_
  refine sv50 ?_
  refine ⟨⟨hfl j.Olds, by simp, by simp; omega, by simp; omega⟩, ?_⟩
  refine Fin.nt results109 [4] ?_ ?_ ?_ <;> try trivial
  all_goals exact entd
 constructor <;> intro hq2
 ·rw [pendM, hc1, hq, hq2, cond_false, cond_false, cond_true]
  refine ck e228 (hce) rfl ?_
  refine sv50 ?_
  refine ⟨⟨hfl j.Olds, by simp, by omega, by omega⟩, ?_⟩
  refine Fin.nt results109 [4] ?_ ?_ ?_ <;> try trivial
  all_goals exact entd
 constructor <;> intro hq3
 ·rw [pendM, hc1, hq, hq2, hq3, cond_false, cond_false, cond_false, cond_true]
  refine sv49 ?_
  refine ⟨⟨by omega, by omega, by omega⟩, ?_⟩
  refine ck e228 (hce) rfl ?_
  refine sv50 ?_
  refine ⟨⟨hfl _, by simp, by simp; omega, by simp; omega⟩, ?_⟩
  refine Fin.nt results109 [4] ?_ ?_ ?_ <;> try trivial
  all_goals exact entd
 ·rw [pendM, hc1, hq, hq2, hq3, cond_false, cond_false, cond_false, cond_false]
  refine ck e228 (hce) rfl ?_
  refine sv50 ?_
  refine ⟨⟨by simp, by simp⟩, ?_⟩
  refine Fin.nt results109 [4] ?_ ?_ ?_ <;> try trivial
  all_goals exact entd
def rowIn (slot : Int) (r : LRow) : Bool := handleOk r.Handle && r.Handle.tmod 32 == slot
def inLimboM (l : List LList) (slot : Int) : Bool := (rowsOf l).any (rowIn slot)
theorem c342 (r : LRow) (slot : Int) : Ctr prog 342 [.agg ((encLRow r).map .dat), .one (.ptr (.ro 1 [[.int .i64 slot]] 0 0))] [] (.one (.dat (.bool (rowIn slot r)))) [] := by
 simp only [encLRow, List.map_cons, List.map_nil]
 refine Ctr.bd mixed func342 rfl ?_
 refine evl ?_
 refine scs ?_
 refine ck e188 (c188 r.Handle) rfl ?_
 refine evl ?_
 refine scs ?_
 refine Fin.nt results342 [] ?_ ?_ ?_ <;> try trivial
 (refine rsl ?_; try exact .intro)
 rw [rowIn]; cases handleOk r.Handle <;> rfl
theorem c341 (l : LList) (hl : l.Rows.length <= maxLen) (slot : Int) : Ctr prog 341 [.agg ((encLList l).map .dat), .one (.ptr (.ro 1 [[.int .i64 slot]] 0 0))] [] (.one (.dat (.bool (l.Rows.any (rowIn slot))))) [] := by
 have hcc := c161_k1 l.Rows hl e342 (fun x _ => c342 x slot)
 simp only [encLList, List.map_cons, List.map_nil]
 refine Ctr.bd mixed func341 rfl ?_
 refine evl ?_
 refine scs ?_
 refine ck e161 (hcc) rfl ?_
 refine evl ?_
 refine Fin.nt results341 [] ?_ ?_ ?_ <;> try trivial
theorem rowsOf_any (l : List LList) (p : LRow -> Bool) : (rowsOf l).any p = l.any fun x => x.Rows.any p := by
 simp only [rowsOf, List.any_flatten, List.any_map]; rfl
theorem c226 (l : List LList) (hl : l.length <= 1048576) (hr : ∀ x ∈ l, x.Rows.length <= 1048576) (slot : Int) : Ctr prog 226 [.one (.dat (.sl 1 (l.map encLList))), .one (.dat (.int .i64 slot))] [] (.one (.dat (.bool (inLimboM l slot)))) [] := by
 have hmx : maxLen = 9223372036854775807 := rfl
 have hcc := c159_k1 l (by omega) e341 (fun x hx => c341 x (by have := hr x hx; omega) slot)
 rw [inLimboM, rowsOf_any]
 refine Ctr.bd mixed func226 rfl ?_
 refine evl ?_
 refine scs ?_
 refine ck e159 (hcc) rfl ?_
 refine evl ?_
 refine Fin.nt results226 [] ?_ ?_ ?_ <;> try trivial
theorem handle_slot {h : Int} (hh : handleOk h = true) : handleSlot h = h.tmod 32 := by
 rw [handleSlot, if_pos hh, (handle_pos hh).1]
theorem c104 (l : List LList) (hl : l.length <= 1048576) (hr : (rowsOf l).length <= 1048576) (slot : Int) : Ctr prog 104 [.one (.dat (.sl 1 (l.map encLList))), .one (.dat (.int .i64 slot))] [] (.one (.dat (.bool (inLimboM l slot)))) [] := by
 have hmx : maxLen = 9223372036854775807 := rfl
 have hca := c140 l hl hr
 rw [inLimboM]
 generalize rowsOf l = R at hr hca ⊢
 refine Ctr.bd mixed func104 rfl ?_
 refine evl ?_
 refine scs ?_
 refine ck e140 (hca) rfl ?_
 refine evl ?_
 refine scs ?_
 refine LoopK_intro (fun zn zs => ∃ i : Nat, i <= R.length /\ zn = R.length - i /\ (R.any (rowIn slot) = (R.drop i).any (rowIn slot)) /\ zs = mkSt [(6, .one (.dat (.int .i64 i))), (5, .one (.own 0)), (0, .one (.dat (.sl 1 (l.map encLList)))), (1, .one (.dat (.int .i64 slot)))] [.vec 2 true (R.map encLRow)]) (R.length) _
  (Ent.wk [0]) ⟨0, by omega, by omega, rfl, rfl⟩ ?_
 rintro zn zs ⟨i, hi, rfl, hinv, rfl⟩ K hK
 rcases Nat.lt_or_ge i (R.length) with hlt | hge
 ·have hdi : decide ((i : Int) < ((R.length : Nat) : Int)) = true := decide_eq_true (by omega)
  have hw := wrap_succ hlt (show R.length <= maxLen by omega)
  rw [List.drop_eq_getElem_cons hlt, List.any_cons] at hinv
  obtain ⟨r, hri⟩ : ∃ r, R[i] = r := ⟨_, rfl⟩
  rw [hri] at hinv
  have hrow : rowIn slot r = (bif handleOk r.Handle then handleSlot r.Handle == slot else false) := by
   rw [rowIn]
   cases hh : handleOk r.Handle with
   | false => rfl
   | true => rw [handle_slot hh]; rfl
  refine sv38 ?_
  refine scs ?_
  refine ck e183 (c183 r.Handle) rfl ?_
  refine sv38 ?_
  refine scs ?_
  refine ck e105 (c105 r.Handle) rfl ?_
  refine sv38 ?_
  refine scs ?_
  constructor <;> intro hq
  ·rw [hrow, hq, Bool.true_or] at hinv
   apply hK
   refine sv38 ?_
   refine Fin.nt results104 [] ?_ ?_ ?_ <;> try trivial
   (refine rsl ?_; try exact .intro)
   exact hinv.symm
  ·rw [hrow, hq, Bool.false_or] at hinv
   (apply hK
    exact ⟨R.length - (i + 1), _, by omega, Ent.wk [0], i + 1, by omega, rfl, hinv, rfl⟩)
 ·have hge' : R.length = i := by omega
  subst hge'
  have hdi : decide (((R.length : Nat) : Int) < ((R.length : Nat) : Int)) = false := by simp
  rw [List.drop_length, List.any_nil] at hinv
  refine sv3 ?_
  apply hK
  refine evl ?_
  refine Fin.nt results104 [] ?_ ?_ ?_ <;> try trivial
  (refine rsl ?_; try exact .intro)
  exact hinv.symm
def whereM (b : Base) (slot : Int) : Int := if stateM b.Mem slot ≠ 3 then stateM b.Mem slot else if inLimboM b.Limbo slot = true then 3 else 4
theorem whereM_in (b : Base) (slot : Int) : 0 <= whereM b slot /\ whereM b slot < 5 := by
 unfold whereM stateM
 repeat' split
 all_goals omega
def bump (l : List Int) (k : Nat) : List Int := l.set k (l.getD k 0 + 1)
def tallyGo (b : Base) : List Int -> List Nat -> List Int
 | o, [] => o
 | o, s :: r => tallyGo b (bump o (whereM b s).toNat) r
def tallyM (b : Base) : List Int := bif baseOk b then tallyGo b [0, 0, 0, 0, 0] (List.range 24) else [0, 0, 0, 0, 0]
theorem bump_len (l : List Int) (k : Nat) : (bump l k).length = l.length := by simp [bump]
theorem tallyGo_len (b : Base) : ∀ (r : List Nat) (o : List Int), (tallyGo b o r).length = o.length
 | [], o => rfl
 | s :: r, o => by rw [tallyGo, tallyGo_len b r, bump_len]
theorem tallyM_len (b : Base) : (tallyM b).length = 5 := by
 unfold tallyM
 cases baseOk b
 ·rfl
 ·simp only [cond_true, tallyGo_len]; rfl
theorem c340 (b : Base) (hz : sizBase b <= 1048576) (hs : shapedM b.Mem.Heap = true) (s : Int) : Ctr prog 340 [.agg ((encBase b).map .dat), .one (.dat (.int .i64 s))] [] (.one (.dat (.int .i64 (whereM b s)))) [] := by
 obtain ⟨z1, z2, z3, z4, z5, z6⟩ := base_len hz
 have hcs := c189 b.Mem z1 hs s
 simp only [encMem, encBase, List.map_cons, List.map_nil] at hcs ⊢
 refine Ctr.bd mixed func340 rfl ?_
 refine evl ?_
 refine scs ?_
 refine ck e189 (hcs) rfl ?_
 refine evl ?_
 constructor <;> intro hq
 ·refine Fin.nt results340 [] ?_ ?_ ?_ <;> try trivial
  (refine rsl ?_; try exact .intro)
  rw [whereM, if_pos (by simpa using hq)]
 refine ck e226 (c226 b.Limbo z3 z6 s) rfl ?_
 refine evl ?_
 constructor <;> intro hq2
 ·refine Fin.nt results340 [] ?_ ?_ ?_ <;> try trivial
  (refine rsl ?_; try exact .intro)
  rw [whereM, if_neg (by simpa using hq), if_pos hq2]
 ·refine Fin.nt results340 [] ?_ ?_ ?_ <;> try trivial
  (refine rsl ?_; try exact .intro)
  rw [whereM, if_neg (by simpa using hq), if_neg (by simpa using hq2)]
theorem c222 (b : Base) (hz : sizBase b <= 1048576) (hs : shapedM b.Mem.Heap = true) (s : Int) : Ctr prog 222 [.agg ((encBase b).map .dat), .one (.dat (.int .i64 s))] [] (.one (.dat (.int .i64 (whereM b s)))) [] := by
 obtain ⟨z1, z2, z3, z4, z5, z6⟩ := base_len hz
 have hcs := c184 b.Mem z1 hs s
 simp only [encMem, encBase, List.map_cons, List.map_nil] at hcs ⊢
 refine Ctr.bd mixed func222 rfl ?_
 refine evl ?_
 refine scs ?_
 refine ck e184 (hcs) rfl ?_
 refine evl ?_
 refine scs ?_
 refine ck e104 (c104 b.Limbo z3 z4 s) rfl ?_
 refine evl ?_
 refine scs ?_
 constructor <;> intro hq
 ·refine Fin.nt results222 [] ?_ ?_ ?_ <;> try trivial
  (refine rsl ?_; try exact .intro)
  have hq2 : stateM b.Mem s = 3 /\ inLimboM b.Limbo s = false := by
   revert hq; cases h1 : inLimboM b.Limbo s <;> simp
  rw [whereM, if_neg (by simp [hq2.1]), if_neg (by simp [hq2.2])]
 ·refine Fin.nt results222 [] ?_ ?_ ?_ <;> try trivial
  (refine rsl ?_; try exact .intro)
  rw [whereM]
  by_cases h3 : stateM b.Mem s = 3
  ·have : inLimboM b.Limbo s = true := by
    revert hq; cases h1 : inLimboM b.Limbo s <;> simp [h3]
   rw [if_neg (by simp [h3]), if_pos this, h3]
  ·rw [if_pos h3]
theorem set_bump (o : List Int) (k : Nat) (hk : k < o.length) : (o.map encI).set k [.int .i64 (o[k] + 1)] = (bump o k).map encI := by
 rw [bump, List.map_set, List.getD_eq_getElem?_getD, List.getElem?_eq_getElem hk]; rfl
theorem bump_bnd {o : List Int} {i : Int} {k : Nat} (hk : k < o.length) (h : ∀ x ∈ o, 0 <= x /\ x <= i) : ∀ x ∈ bump o k, 0 <= x /\ x <= i + 1 := by
 intro x hx
 unfold bump at hx
 rcases List.mem_or_eq_of_mem_set hx with hx | rfl
 ·have := h x hx; omega
 ·rw [List.getD_eq_getElem?_getD, List.getElem?_eq_getElem hk]
  have := h o[k] (List.getElem_mem hk)
  simp only [Option.getD_some]; omega
theorem tally_step (b : Base) {i : Nat} (hi : i < 24) (o : List Int) : tallyGo b o ((List.range 24).drop i) = tallyGo b (bump o (whereM b (i : Int)).toNat) ((List.range 24).drop (i + 1)) := by
 rw [List.drop_eq_getElem_cons (by simpa using hi), List.getElem_range, tallyGo]
theorem c224 (b : Base) (hz : sizBase b <= 1048576) : Ctr prog 224 [.agg ((encBase b).map .dat)] [] (.one (.own 0)) [.vec 1 true ((tallyM b).map encI)] := by
 have hmx : maxLen = 9223372036854775807 := rfl
 have hcb := c65 b hz
 cases h0 : baseOk b with
 | false =>
  rw [h0] at hcb
  rw [tallyM, h0]
  simp only [encBase, List.map_cons, List.map_nil, cond_false] at hcb ⊢
  refine Ctr.bd mixed func224 rfl ?_
  refine evl ?_
  refine scs ?_
  refine ck e65 (hcb) rfl ?_
  refine evl ?_
  refine scs ?_
  refine Fin.nt results224 [1] ?_ ?_ ?_ <;> try trivial
  all_goals (simp [objsLe, envLe, find, St.obj, AObj.renF, AV.renF, AV.renF1, Leaf.renF, LowAll, AV.Low, AV.Low1, Leaf.Low, AObj.Low, Ptr.renF, Ptr.Low]; try simp [encI])
 | true =>
 have hs := (baseOk_parts h0).2.2.2.2
 have hcw := fun s => c340 b hz hs s
 rw [h0] at hcb
 rw [tallyM, h0, cond_true]
 obtain ⟨R, hR⟩ : ∃ R, tallyGo b [0, 0, 0, 0, 0] (List.range 24) = R := ⟨_, rfl⟩
 rw [hR]
 simp only [encBase, List.map_cons, List.map_nil] at hcb hcw ⊢
 refine Ctr.bd mixed func224 rfl ?_
 refine evl ?_
 refine scs ?_
 refine ck e65 (hcb) rfl ?_
 refine evl ?_
 refine scs ?_
 refine LoopK_intro (fun zn zs => ∃ (i : Nat) (o : List Int), i <= 24 /\ zn = 24 - i /\ (R = tallyGo b o ((List.range 24).drop i) /\ o.length = 5 /\ ∀ x ∈ o, 0 <= x /\ x <= (i : Int)) /\ zs = mkSt [(10, .one (.dat (.int .i64 i))), (1, .one (.ptr (.own 0 0 0))), (3, .one (.own 1))] [.box [.dat (.sl 1 (b.Mem.Heap.Bytes.map encI)), .dat (.sl 1 (b.Mem.Heap.Class.map encI)), .dat (.sl 1 (b.Mem.Lists.Global.map encSList)), .dat (.sl 1 (b.Mem.Lists.Own.map encSList)), .dat (.int .i64 b.Clock.Epoch), .dat (.sl 4 (b.Clock.Pins.map encPin)), .dat (.sl 1 (b.Limbo.map encLList)), .dat (.sl 1 (b.Haz.map encI))], .vec 1 true (o.map encI)]) (24) _
  (Ent.wk [0, 1]) ⟨0, [0, 0, 0, 0, 0], by omega, by omega, ⟨by rw [List.drop_zero, hR], rfl, by decide⟩, rfl⟩ ?_
 rintro zn zs ⟨i, o, hi, rfl, hinv, rfl⟩ K hK
 rcases Nat.lt_or_ge i (24) with hlt | hge
 ·have hdi : decide ((i : Int) < ((24 : Nat) : Int)) = true := decide_eq_true (by omega)
  have hw := wrap_succ hlt (show 24 <= maxLen by decide)
  obtain ⟨hv1, hv2, hv3⟩ := hinv
  have hd3 : decide ((i : Int) < 24) = true := decide_eq_true (by omega)
  have hwi := whereM_in b (i : Int)
  have hwl : (whereM b (i : Int)).toNat < o.length := by omega
  have hww : IntKind.i64.wrap (o[(whereM b (i : Int)).toNat] + 1) = o[(whereM b (i : Int)).toNat] + 1 := by
   have := hv3 _ (List.getElem_mem hwl)
   rw [wrap_id] <;> omega
  have hsb := set_bump o (whereM b (i : Int)).toNat hwl
  rw [tally_step b hlt] at hv1
  refine sv51 ?_
  refine scs ?_
  refine ck e340 (hcw (i : Int)) rfl ?_
  refine sv51 ?_
  refine scs ?_
  rw [hsb]
  (apply hK
   exact ⟨24 - (i + 1), _, by omega, Ent.wk [0, 1], i + 1, (bump o (whereM b (i : Int)).toNat), by omega, rfl, ⟨hv1, by rw [bump_len]; exact hv2, by simpa using bump_bnd hwl hv3⟩, rfl⟩)
 ·have hge' : 24 = i := by omega
  subst hge'
  have hdi : decide (((24 : Nat) : Int) < ((24 : Nat) : Int)) = false := by simp
  obtain ⟨hv1, hv2, hv3⟩ := hinv
  have hd3 : decide (((24 : Nat) : Int) < 24) = false := rfl
  have hoe : R = o := by rw [hv1, List.drop_of_length_le (by simp), tallyGo]
  refine sv27 ?_
  apply hK
  rw [hoe]
  clear hoe hv1 hR
  refine evl ?_
  refine Fin.nt results224 [1] ?_ ?_ ?_ <;> try trivial
  all_goals exact entd
theorem c106 (b : Base) (hz : sizBase b <= 1048576) : Ctr prog 106 [.agg ((encBase b).map .dat)] [] (.one (.own 0)) [.vec 1 true ((tallyM b).map encI)] := by
 have hmx : maxLen = 9223372036854775807 := rfl
 have hcb := c55 b hz
 cases h0 : baseOk b with
 | false =>
  rw [h0] at hcb
  rw [tallyM, h0]
  simp only [encBase, List.map_cons, List.map_nil, cond_false] at hcb ⊢
  refine Ctr.bd mixed func106 rfl ?_
  refine evl ?_
  refine scs ?_
  refine ck e55 (hcb) rfl ?_
  refine evl ?_
  refine scs ?_
  refine LoopK_intro (fun zn zs => ∃ i : Nat, i <= 0 /\ zn = 0 - i /\ zs = mkSt [(5, .one (.dat (.int .i64 i))), (1, .one (.ptr (.own 0 0 0))), (3, .one (.own 1)), (4, .one (.dat (.bool false)))] [.box [.dat (.sl 1 (b.Mem.Heap.Bytes.map encI)), .dat (.sl 1 (b.Mem.Heap.Class.map encI)), .dat (.sl 1 (b.Mem.Lists.Global.map encSList)), .dat (.sl 1 (b.Mem.Lists.Own.map encSList)), .dat (.int .i64 b.Clock.Epoch), .dat (.sl 4 (b.Clock.Pins.map encPin)), .dat (.sl 1 (b.Limbo.map encLList)), .dat (.sl 1 (b.Haz.map encI))], .vec 1 true ([0, 0, 0, 0, 0].map encI)]) (0) _
   (Ent.wk [0, 1]) ⟨0, by omega, by omega, rfl⟩ ?_
  rintro zn zs ⟨i, hi, rfl, rfl⟩ K hK
  rcases Nat.lt_or_ge i (0) with hlt | hge
  ·have hdi : decide ((i : Int) < ((0 : Nat) : Int)) = true := decide_eq_true (by omega)
   have hw := wrap_succ hlt (by decide)
   exact absurd hlt (Nat.not_lt_zero _)
  ·have hge' : 0 = i := by omega
   subst hge'
   have hdi : decide (((0 : Nat) : Int) < ((0 : Nat) : Int)) = false := by simp
   have hd0 : decide (((0 : Nat) : Int) < 24) = true := rfl
   refine sv5 ?_
   apply hK
   refine evl ?_
   refine Fin.nt results106 [1] ?_ ?_ ?_ <;> try trivial
   all_goals exact entd
 | true =>
 have hs := (baseOk_parts h0).2.2.2.2
 have hcw := fun s => c222 b hz hs s
 rw [h0] at hcb
 rw [tallyM, h0, cond_true]
 obtain ⟨R, hR⟩ : ∃ R, tallyGo b [0, 0, 0, 0, 0] (List.range 24) = R := ⟨_, rfl⟩
 rw [hR]
 simp only [encBase, List.map_cons, List.map_nil] at hcb hcw ⊢
 refine Ctr.bd mixed func106 rfl ?_
 refine evl ?_
 refine scs ?_
 refine ck e55 (hcb) rfl ?_
 refine evl ?_
 refine scs ?_
 refine LoopK_intro (fun zn zs => ∃ (i : Nat) (o : List Int), i <= 24 /\ zn = 24 - i /\ (R = tallyGo b o ((List.range 24).drop i) /\ o.length = 5 /\ ∀ x ∈ o, 0 <= x /\ x <= (i : Int)) /\ zs = mkSt [(5, .one (.dat (.int .i64 i))), (1, .one (.ptr (.own 0 0 0))), (3, .one (.own 1)), (4, .one (.dat (.bool true)))] [.box [.dat (.sl 1 (b.Mem.Heap.Bytes.map encI)), .dat (.sl 1 (b.Mem.Heap.Class.map encI)), .dat (.sl 1 (b.Mem.Lists.Global.map encSList)), .dat (.sl 1 (b.Mem.Lists.Own.map encSList)), .dat (.int .i64 b.Clock.Epoch), .dat (.sl 4 (b.Clock.Pins.map encPin)), .dat (.sl 1 (b.Limbo.map encLList)), .dat (.sl 1 (b.Haz.map encI))], .vec 1 true (o.map encI)]) (24) _
  (Ent.wk [0, 1]) ⟨0, [0, 0, 0, 0, 0], by omega, by omega, ⟨by rw [List.drop_zero, hR], rfl, by decide⟩, rfl⟩ ?_
 rintro zn zs ⟨i, o, hi, rfl, hinv, rfl⟩ K hK
 rcases Nat.lt_or_ge i (24) with hlt | hge
 ·have hdi : decide ((i : Int) < ((24 : Nat) : Int)) = true := decide_eq_true (by omega)
  have hw := wrap_succ hlt (show 24 <= maxLen by decide)
  obtain ⟨hv1, hv2, hv3⟩ := hinv
  have hd3 : decide ((i : Int) < 24) = true := decide_eq_true (by omega)
  have hwi := whereM_in b (i : Int)
  have hwl : (whereM b (i : Int)).toNat < o.length := by omega
  have hww : IntKind.i64.wrap (o[(whereM b (i : Int)).toNat] + 1) = o[(whereM b (i : Int)).toNat] + 1 := by
   have := hv3 _ (List.getElem_mem hwl)
   rw [wrap_id] <;> omega
  have hsb := set_bump o (whereM b (i : Int)).toNat hwl
  rw [tally_step b hlt] at hv1
  refine sv51 ?_
  refine scs ?_
  refine ck e222 (hcw (i : Int)) rfl ?_
  refine sv51 ?_
  refine scs ?_
  rw [hsb]
  (apply hK
   exact ⟨24 - (i + 1), _, by omega, Ent.wk [0, 1], i + 1, (bump o (whereM b (i : Int)).toNat), by omega, rfl, ⟨hv1, by rw [bump_len]; exact hv2, by simpa using bump_bnd hwl hv3⟩, rfl⟩)
 ·have hge' : 24 = i := by omega
  subst hge'
  have hdi : decide (((24 : Nat) : Int) < ((24 : Nat) : Int)) = false := by simp
  obtain ⟨hv1, hv2, hv3⟩ := hinv
  have hd3 : decide (((24 : Nat) : Int) < 24) = false := rfl
  have hoe : R = o := by rw [hv1, List.drop_of_length_le (by simp), tallyGo]
  refine sv27 ?_
  apply hK
  rw [hoe]
  clear hoe hv1 hR
  refine evl ?_
  refine Fin.nt results106 [1] ?_ ?_ ?_ <;> try trivial
  all_goals exact entd
def chGo (m : Mem) : List Bkt -> Option (List (List Int))
 | [] => some []
 | b :: B => if (chainR m b.Head).2 = true then (chGo m B).map ((chainR m b.Head).1 :: ·) else none
def chainsM (t : Table) : List (List Int) × Bool := bif tableOk t then (match chGo t.Base.Mem t.Bkts with
 | some l => (l, true)
 | none => ([], false)) else ([], false)
def linkedM (t : Table) : List Int := ascN (chainsM t).1.flatten
theorem chain_le (m : Mem) (h : Int) : (chainR m h).1.length <= 24 := by
 rcases chain_good m h with e | ⟨_, hg⟩
 ·rw [e]; decide
 ·exact good_len hg
theorem chGo_len (m : Mem) : ∀ (B : List Bkt) (l : List (List Int)), chGo m B = some l -> l.length = B.length /\ (∀ c ∈ l, c.length <= 24)
 | [], l, h => by cases h; exact ⟨rfl, by simp⟩
 | b :: B, l, h => by
  rw [chGo] at h
  split at h
  ·obtain ⟨l', h1, rfl⟩ := Option.map_eq_some_iff.1 h
   obtain ⟨h2, h3⟩ := chGo_len m B l' h1
   refine ⟨by simp [h2], fun c hc => ?_⟩
   rcases List.mem_cons.1 hc with rfl | hc
   ·exact chain_le m _
   ·exact h3 c hc
  ·cases h
theorem sum_le_mul : ∀ (l : List (List Int)), (∀ c ∈ l, c.length <= 24) -> sumIL l <= 24 * l.length
 | [], _ => by simp [sumIL]
 | c :: l, h => by
  have h1 := sum_le_mul l fun x hx => h x (List.mem_cons_of_mem _ hx)
  have h2 := h c (by simp)
  rw [sumIL_cons, List.length_cons]; omega
theorem chainsM_len (t : Table) : (chainsM t).1.length <= 2 /\ (∀ c ∈ (chainsM t).1, c.length <= 24) /\ sumIL (chainsM t).1 <= 48 := by
 unfold chainsM
 cases h : tableOk t with
 | false => exact ⟨by simp, fun c hc => by simp at hc, by simp [sumIL]⟩
 | true =>
  simp only [cond_true]
  split
  ·rename_i l hl
   obtain ⟨h1, h2⟩ := chGo_len _ _ _ hl
   have h3 := sum_le_mul l h2
   have := (tableOk_parts h).2.1
   exact ⟨by simp only; omega, h2, by simp only; omega⟩
  ·exact ⟨by simp, fun c hc => by simp at hc, by simp [sumIL]⟩
theorem linkedM_len (t : Table) : (linkedM t).length <= 48 := by
 have h1 := ascN_len (chainsM t).1.flatten
 have h2 := (chainsM_len t).2.2
 rw [sumIL_flat] at h1
 unfold linkedM; omega
theorem chain_handles {m : Mem} {h x : Int} (hx : x ∈ (chainR m h).1) : handleOk x = true := by
 rcases chain_good m h with e | ⟨_, hg⟩
 ·rw [e] at hx; cases hx
 ·exact (live_iff (hg.2 x hx).1).1
theorem chGo_handles (m : Mem) : ∀ (B : List Bkt) (l : List (List Int)), chGo m B = some l -> ∀ x ∈ l.flatten, handleOk x = true
 | [], l, h, x, hx => by cases h; cases hx
 | b :: B, l, h, x, hx => by
  rw [chGo] at h
  split at h
  ·obtain ⟨l', h1, rfl⟩ := Option.map_eq_some_iff.1 h
   rw [List.flatten_cons, List.mem_append] at hx
   rcases hx with hx | hx
   ·exact chain_handles hx
   ·exact chGo_handles m B l' h1 x hx
  ·cases h
theorem chains_handles (t : Table) : ∀ x ∈ (chainsM t).1.flatten, handleOk x = true := by
 unfold chainsM
 cases h : tableOk t with
 | false => intro x hx; cases hx
 | true =>
  simp only [cond_true]
  split
  ·rename_i l hl; exact chGo_handles _ _ _ hl
  ·intro x hx; cases hx
theorem c92 (t : Table) (hz : sizTable t <= 1048576) : Ctr prog 92 [.agg ((encTable t).map .dat)] [] (.tup [.one (.own 0), .one (.dat (.bool (chainsM t).2))]) [.vec 1 true ((chainsM t).1.map encIL)] := by
 have hmx : maxLen = 9223372036854775807 := rfl
 have hct := c16 t hz
 obtain ⟨z1, _⟩ := table_len hz
 obtain ⟨zm, _⟩ := base_len z1
 have hcc := fun h => c204 t.Base.Mem zm h
 cases h0 : tableOk t with
 | false =>
  rw [h0] at hct
  have hcm : chainsM t = ([], false) := by rw [chainsM, h0]; rfl
  rw [hcm]
  simp only [encTable, List.map_cons, List.map_nil] at hct ⊢
  refine Ctr.bd mixed func92 rfl ?_
  refine evl ?_
  refine scs ?_
  refine ck e16 (hct) rfl ?_
  refine evl ?_
  refine Fin.nt results92 [1] ?_ ?_ ?_ <;> try trivial
  all_goals exact entd
 | true =>
 rw [h0] at hct
 obtain ⟨_, hb2, _⟩ := tableOk_parts h0
 have hcm : chainsM t = (match chGo t.Base.Mem t.Bkts with
  | some l => (l, true)
  | none => ([], false)) := by rw [chainsM, h0]; rfl
 simp only [encTable, encMem, List.map_cons, List.map_nil] at hct hcc ⊢
 refine Ctr.bd mixed func92 rfl ?_
 refine evl ?_
 refine scs ?_
 refine ck e16 (hct) rfl ?_
 refine sv14 ?_
 refine scs ?_
 refine LoopK_intro (fun zn zs => ∃ (i : Nat) (o : List (List Int)), i <= t.Bkts.length /\ zn = t.Bkts.length - i /\ (chGo t.Base.Mem t.Bkts = (chGo t.Base.Mem (t.Bkts.drop i)).map (o ++ ·) /\ o.length = i) /\ zs = mkSt [(17, .one (.dat (.int .i64 i))), (16, .one (.dat (.int .i64 (t.Bkts.length)))), (15, .one (.dat (.sl 3 (t.Bkts.map encBkt)))), (1, .one (.ptr (.own 0 0 0))), (4, .one (.own 1))] [.box [.dat (.sl 1 (t.Base.Mem.Heap.Bytes.map encI)), .dat (.sl 1 (t.Base.Mem.Heap.Class.map encI)), .dat (.sl 1 (t.Base.Mem.Lists.Global.map encSList)), .dat (.sl 1 (t.Base.Mem.Lists.Own.map encSList)), .dat (.int .i64 t.Base.Clock.Epoch), .dat (.sl 4 (t.Base.Clock.Pins.map encPin)), .dat (.sl 1 (t.Base.Limbo.map encLList)), .dat (.sl 1 (t.Base.Haz.map encI)), .dat (.sl 3 (t.Bkts.map encBkt)), .dat (.sl 32 (t.Jobs.map encTJob)), .dat (.sl 1 (t.Todo.map encTQueue)), .dat (.sl 6 (t.Log.map encTEv)), .dat (.int .i64 t.Serial)], .vec 1 true (o.map encIL)]) (t.Bkts.length) _
  (Ent.wk [0, 1]) ⟨0, [], by omega, by omega, ⟨by simp, rfl⟩, rfl⟩ ?_
 rintro zn zs ⟨i, o, hi, rfl, hinv, rfl⟩ K hK
 rcases Nat.lt_or_ge i (t.Bkts.length) with hlt | hge
 ·have hdi : decide ((i : Int) < ((t.Bkts.length : Nat) : Int)) = true := decide_eq_true (by omega)
  have hw := wrap_succ hlt (show t.Bkts.length <= maxLen by omega)
  obtain ⟨hv1, hv2⟩ := hinv
  obtain ⟨b, hbi⟩ : ∃ b, t.Bkts[i] = b := ⟨_, rfl⟩
  rw [List.drop_eq_getElem_cons hlt, hbi, chGo] at hv1
  have hlc := chain_le t.Base.Mem b.Head
  refine sv52 ?_
  refine scs ?_
  refine ck e204 (hcc b.Head) rfl ?_
  refine sv52 ?_
  refine scs ?_
  constructor <;> intro hq
  ·rw [if_neg (by rw [not_t hq]; simp)] at hv1
   have hcm2 : chainsM t = ([], false) := by rw [hcm, hv1]; rfl
   apply hK
   rw [hcm2]
   refine sv52 ?_
   refine Fin.ent (Ent.emp (t := 2) (sz := 1) rfl) ?_
   refine sv52 ?_
   refine Fin.nt results92 [4] ?_ ?_ ?_ <;> try trivial
   all_goals exact entd
  ·rw [if_pos (not_f hq)] at hv1
   refine scs ?_
   (apply hK
    exact ⟨t.Bkts.length - (i + 1), _, by omega, Ent.wk [0, 5], i + 1, (o ++ [(chainR t.Base.Mem b.Head).1]), by omega, rfl, ⟨by rw [hv1, Option.map_map]; congr 1; funext x; simp, by simp [hv2]⟩, rfl⟩)
 ·have hge' : t.Bkts.length = i := by omega
  subst hge'
  have hdi : decide (((t.Bkts.length : Nat) : Int) < ((t.Bkts.length : Nat) : Int)) = false := by simp
  obtain ⟨hv1, hv2⟩ := hinv
  have hoe : chGo t.Base.Mem t.Bkts = some o := by rw [hv1, List.drop_length]; simp [chGo]
  have hcm2 : chainsM t = (o, true) := by rw [hcm, hoe]
  refine sv3 ?_
  apply hK
  rw [hcm2]
  refine evl ?_
  refine Fin.nt results92 [1] ?_ ?_ ?_ <;> try trivial
  all_goals exact entd
theorem c38 (t : Table) (hz : sizTable t <= 1048576) : Ctr prog 38 [.agg ((encTable t).map .dat)] [] (.one (.own 0)) [.vec 1 true ((linkedM t).map encI)] := by
 have hmx : maxLen = 9223372036854775807 := rfl
 have hcc := c92 t hz
 obtain ⟨l1, l2, l3⟩ := chainsM_len t
 have hck := c107 (chainsM t).1 (by omega) (by omega)
 have hca := c102 (chainsM t).1.flatten (by rw [sumIL_flat]; omega)
 simp only [encTable, List.map_cons, List.map_nil] at hcc ⊢
 refine Ctr.bd mixed func38 rfl ?_
 refine evl ?_
 refine scs ?_
 refine ck e92 (hcc) rfl ?_
 refine evl ?_
 refine scs ?_
 refine ck e107 (hck) rfl ?_
 refine evl ?_
 refine scs ?_
 refine ck e102 (hca) rfl ?_
 rw [show linkedM t = ascN (chainsM t).1.flatten from rfl]
 refine evl ?_
 refine Fin.nt results38 [3] ?_ ?_ ?_ <;> try trivial
 all_goals exact entd
theorem c37 (t : Table) (hz : sizTable t <= 1048576) : Ctr prog 37 [.agg ((encTable t).map .dat)] [] (.one (.own 0)) [.vec 1 true ((linkedM t).map encI)] := by
 have hmx : maxLen = 9223372036854775807 := rfl
 have hct := c14 t hz
 obtain ⟨z1, _⟩ := table_len hz
 obtain ⟨zm, _⟩ := base_len z1
 cases h0 : tableOk t with
 | false =>
  rw [h0] at hct
  have hcm : linkedM t = [] := by rw [linkedM, chainsM, h0]; rfl
  rw [hcm]
  simp only [encTable, List.map_cons, List.map_nil] at hct ⊢
  refine Ctr.bd mixed func37 rfl ?_
  refine evl ?_
  refine scs ?_
  refine ck e14 (hct) rfl ?_
  refine evl ?_
  refine scs ?_
  refine Fin.nt results37 [1] ?_ ?_ ?_ <;> try trivial
  all_goals exact entd
 | true =>
 rw [h0] at hct
 obtain ⟨hbo, hb2, _⟩ := tableOk_parts h0
 have hm := (baseOk_parts hbo).1
 have hcc := fun h => c89 t.Base.Mem zm hm h
 have hcm : chainsM t = (match chGo t.Base.Mem t.Bkts with
  | some l => (l, true)
  | none => ([], false)) := by rw [chainsM, h0]; rfl
 have hch := chains_handles t
 simp only [encTable, encMem, List.map_cons, List.map_nil] at hct hcc ⊢
 refine Ctr.bd mixed func37 rfl ?_
 refine evl ?_
 refine scs ?_
 refine ck e14 (hct) rfl ?_
 refine evl ?_
 refine scs ?_
 refine LoopK_intro (fun zn zs => ∃ (i : Nat) (o : List (List Int)), i <= 2 /\ zn = 2 - i /\ (chGo t.Base.Mem t.Bkts = (chGo t.Base.Mem (t.Bkts.drop i)).map (o ++ ·) /\ o.flatten.length <= 24 * i) /\ zs = mkSt [(4, .one (.dat (.int .i64 i))), (1, .one (.ptr (.own 0 0 0))), (3, .one (.own 1))] [.box [.dat (.sl 1 (t.Base.Mem.Heap.Bytes.map encI)), .dat (.sl 1 (t.Base.Mem.Heap.Class.map encI)), .dat (.sl 1 (t.Base.Mem.Lists.Global.map encSList)), .dat (.sl 1 (t.Base.Mem.Lists.Own.map encSList)), .dat (.int .i64 t.Base.Clock.Epoch), .dat (.sl 4 (t.Base.Clock.Pins.map encPin)), .dat (.sl 1 (t.Base.Limbo.map encLList)), .dat (.sl 1 (t.Base.Haz.map encI)), .dat (.sl 3 (t.Bkts.map encBkt)), .dat (.sl 32 (t.Jobs.map encTJob)), .dat (.sl 1 (t.Todo.map encTQueue)), .dat (.sl 6 (t.Log.map encTEv)), .dat (.int .i64 t.Serial)], .vec 1 true ((putsN [] o.flatten).map encI)]) (2) _
  (Ent.wk [0, 1]) ⟨0, [], by omega, by omega, ⟨by simp, by decide⟩, rfl⟩ ?_
 rintro zn zs ⟨i, o, hi, rfl, hinv, rfl⟩ K hK
 rcases Nat.lt_or_ge i (2) with hlt | hge
 ·have hdi : decide ((i : Int) < ((2 : Nat) : Int)) = true := decide_eq_true (by omega)
  have hw := wrap_succ hlt (show 2 <= maxLen by decide)
  obtain ⟨hv1, hv2⟩ := hinv
  have hd3 : decide ((i : Int) < 2) = true := decide_eq_true (by omega)
  have hgi : i < t.Bkts.length := by omega
  obtain ⟨b, hbi⟩ : ∃ b, t.Bkts[i] = b := ⟨_, rfl⟩
  rw [List.drop_eq_getElem_cons hgi, hbi, chGo] at hv1
  have hlc := chain_le t.Base.Mem b.Head
  have hpl := putsN_len o.flatten []
  obtain ⟨L, hL⟩ : ∃ L, (chainR t.Base.Mem b.Head).1 = L := ⟨_, rfl⟩
  have hcb := hcc b.Head
  rw [hL] at hv1 hlc hcb
  refine sv53 ?_
  refine scs ?_
  refine ck e89 (hcb) rfl ?_
  refine sv53 ?_
  refine scs ?_
  constructor <;> intro hq
  ·rw [if_neg (by rw [not_t hq]; simp)] at hv1
   have hcm2 : linkedM t = [] := by rw [linkedM, hcm, hv1]; rfl
   refine ⟨List.nodup_nil, ?_⟩
   apply hK
   rw [hcm2]
   refine sv53 ?_
   refine Fin.nt results37 [3] ?_ ?_ ?_ <;> try trivial
   all_goals exact entd
  ·rw [if_pos (not_f hq)] at hv1
   refine scs ?_
   obtain ⟨Q, hQ⟩ : ∃ Q, putsN [] o.flatten = Q := ⟨_, rfl⟩
   rw [hQ] at hpl ⊢
   have hpl : Q.length <= 24 * i := by simp only [List.length_nil] at hpl; omega
   refine LoopK_intro (fun zn zs => ∃ k : Nat, k <= L.length /\ zn = L.length - k /\ zs = mkSt [(7, .one (.dat (.int .i64 k))), (1, .one (.ptr (.own 0 0 0))), (4, .one (.dat (.int .i64 i))), (3, .one (.own 1)), (5, .one (.own 2))] [.box [.dat (.sl 1 (t.Base.Mem.Heap.Bytes.map encI)), .dat (.sl 1 (t.Base.Mem.Heap.Class.map encI)), .dat (.sl 1 (t.Base.Mem.Lists.Global.map encSList)), .dat (.sl 1 (t.Base.Mem.Lists.Own.map encSList)), .dat (.int .i64 t.Base.Clock.Epoch), .dat (.sl 4 (t.Base.Clock.Pins.map encPin)), .dat (.sl 1 (t.Base.Limbo.map encLList)), .dat (.sl 1 (t.Base.Haz.map encI)), .dat (.sl 3 (t.Bkts.map encBkt)), .dat (.sl 32 (t.Jobs.map encTJob)), .dat (.sl 1 (t.Todo.map encTQueue)), .dat (.sl 6 (t.Log.map encTEv)), .dat (.int .i64 t.Serial)], .vec 1 true ((putsN Q (L.take k)).map encI), .vec 1 true (L.map encI)]) (L.length) _
    (Ent.wk [0, 1, 2]) ⟨0, by omega, by omega, rfl⟩ ?_
   rintro zn zs ⟨k, hi2, rfl, rfl⟩ K2 hK2
   rcases Nat.lt_or_ge k (L.length) with hlt2 | hge2
   ·have hdi2 : decide ((k : Int) < ((L.length : Nat) : Int)) = true := decide_eq_true (by omega)
    have hw2 := wrap_succ hlt2 (show L.length <= maxLen by omega)
    have hpk := putsN_len (L.take k) Q
    have htk : L.take (k + 1) = L.take k ++ [L[k]] := List.take_succ_eq_append_getElem hlt2
    have hlk : (L.take k).length <= L.length := by rw [List.length_take]; omega
    refine sv54 ?_
    refine scs ?_
    refine CallK_os [1] e100 (by simp [osOk, St.obj, find]) (c100 (putsN Q (L.take k)) (by omega) L[k]) rfl ?_
    refine sv54 ?_
    refine scs ?_
    rw [<- putsN_snoc, <- htk]
    (apply hK2
     exact ⟨L.length - (k + 1), _, by omega, Ent.wk [0, 3, 2], k + 1, by omega, rfl, rfl⟩)
   ·have hge2' : L.length = k := by omega
    subst hge2'
    have hdi2 : decide (((L.length : Nat) : Int) < ((L.length : Nat) : Int)) = false := by simp
    have hpq : putsN Q L = putsN [] (o ++ [L]).flatten := by rw [List.flatten_append, putsN_app, hQ]; simp
    rw [List.take_length, hpq]
    refine sv24 ?_
    apply hK2
    refine sv0 ?_
    (apply hK
     exact ⟨2 - (i + 1), _, by omega, Ent.wk [0, 1], i + 1, (o ++ [L]), by omega, rfl, ⟨by rw [hv1, Option.map_map]; congr 1; funext x; simp, by rw [List.flatten_append, List.length_append]; simp only [List.flatten_cons, List.flatten_nil, List.append_nil]; omega⟩, rfl⟩)
 ·have hge' : 2 = i := by omega
  subst hge'
  have hdi : decide (((2 : Nat) : Int) < ((2 : Nat) : Int)) = false := by simp
  obtain ⟨hv1, hv2⟩ := hinv
  have hoe : chGo t.Base.Mem t.Bkts = some o := by rw [hv1, List.drop_of_length_le (by omega)]; simp [chGo]
  have hd3 : decide (((2 : Nat) : Int) < 2) = false := rfl
  have hcm2 : linkedM t = putsN [] o.flatten := by
   rw [hcm, hoe] at hch
   rw [linkedM, hcm, hoe, ascN_nz, nz_handles hch]
  refine sv27 ?_
  apply hK
  rw [hcm2]
  refine evl ?_
  refine Fin.nt results37 [1] ?_ ?_ ?_ <;> try trivial
  all_goals exact entd
theorem c36 (t : Table) (hz : sizTable t <= 1048576) : Ctr prog 36 [.agg ((encTable t).map .dat)] [] (.one (.own 0)) [.vec 1 true ((pendingM t).map encI)] := by
 have hmx : maxLen = 9223372036854775807 := rfl
 have hct := c16 t hz
 obtain ⟨z1, z2, z3, z4, z5⟩ := table_len hz
 have hml := pendAll_len t
 have hca := c102 (pendAll t) (by omega)
 have hcp := fun j hs hk hn ho => c110 j hs hk hn ho
 simp only [encTable, encTJob, List.map_cons, List.map_nil] at hct hcp ⊢
 refine Ctr.bd mixed func36 rfl ?_
 refine evl ?_
 refine scs ?_
 refine ck e16 (hct) rfl ?_
 refine sv14 ?_
 refine scs ?_
 constructor <;> intro hq
 ·have h0 : tableOk t = false := by simpa using hq
  have hg : pendingM t = [] := by rw [pendingM, pendAll, h0]; rfl
  rw [hg]
  refine Fin.nt results36 [1] ?_ ?_ ?_ <;> try trivial
  all_goals exact entd
 have h0 : tableOk t = true := by simpa using hq
 clear hq
 obtain ⟨hbo, _, h3, h4, _⟩ := tableOk_parts h0
 unfold pendingM
 rw [pendAll, h0, cond_true] at hml hca ⊢
 refine LoopK_intro (fun zn zs => ∃ (i : Nat) (o : List Int), i <= t.Jobs.length /\ zn = t.Jobs.length - i /\ (pendGo t.Jobs = o ++ pendGo (t.Jobs.drop i)) /\ zs = mkSt [(14, .one (.dat (.int .i64 i))), (13, .one (.dat (.int .i64 (t.Jobs.length)))), (12, .one (.dat (.sl 32 (t.Jobs.map encTJob)))), (1, .one (.ptr (.own 0 0 0))), (3, .one (.own 1))] [.box [.dat (.sl 1 (t.Base.Mem.Heap.Bytes.map encI)), .dat (.sl 1 (t.Base.Mem.Heap.Class.map encI)), .dat (.sl 1 (t.Base.Mem.Lists.Global.map encSList)), .dat (.sl 1 (t.Base.Mem.Lists.Own.map encSList)), .dat (.int .i64 t.Base.Clock.Epoch), .dat (.sl 4 (t.Base.Clock.Pins.map encPin)), .dat (.sl 1 (t.Base.Limbo.map encLList)), .dat (.sl 1 (t.Base.Haz.map encI)), .dat (.sl 3 (t.Bkts.map encBkt)), .dat (.sl 32 (t.Jobs.map encTJob)), .dat (.sl 1 (t.Todo.map encTQueue)), .dat (.sl 6 (t.Log.map encTEv)), .dat (.int .i64 t.Serial)], .vec 1 true (o.map encI)]) (t.Jobs.length) _
  (Ent.wk [0, 1]) ⟨0, [], by omega, by omega, rfl, rfl⟩ ?_
 rintro zn zs ⟨i, o, hi, rfl, hinv, rfl⟩ K hK
 rcases Nat.lt_or_ge i (t.Jobs.length) with hlt | hge
 ·have hdi : decide ((i : Int) < ((t.Jobs.length : Nat) : Int)) = true := decide_eq_true (by omega)
  have hw := wrap_succ hlt (show t.Jobs.length <= maxLen by omega)
  obtain ⟨j, hji⟩ : ∃ j, t.Jobs[i] = j := ⟨_, rfl⟩
  have hjm : j ∈ t.Jobs := hji ▸ List.getElem_mem hlt
  obtain ⟨k0, kn, ko, _⟩ := tjob_parts (h4 j hjm)
  rw [List.drop_eq_getElem_cons hlt, hji, pendGo] at hinv
  have hol : o.length + (pendM j).length <= 36 + 12 := by
   have := congrArg List.length hinv
   have hpm := pendM_len j
   rw [List.length_append] at this
   omega
  have hfl : ∀ r ∈ (pendM j).map encI, ∀ d ∈ r, d.flat = true := by
   intro r hr d hd
   obtain ⟨y, _, rfl⟩ := List.mem_map.1 hr
   simp only [encI, List.mem_cons, List.not_mem_nil, or_false] at hd
   subst hd; rfl
  refine sv55 ?_
  refine scs ?_
  constructor <;> intro hq
  ·rw [hq, cond_true] at hinv
   refine scs ?_
   refine CallK_share [] e110 (hcp j (z4 j hjm) k0 kn ko) rfl ?_
   refine sv55 ?_
   refine ⟨⟨hfl, List.not_mem_nil, by omega, by omega⟩, ?_⟩
   (apply hK
    exact ⟨t.Jobs.length - (i + 1), _, by omega, Ent.wk [0, 3], i + 1, (o ++ pendM j), by omega, rfl, by rw [hinv, List.append_assoc], rfl⟩)
  ·rw [hq, cond_false, List.nil_append] at hinv
   (apply hK
    exact ⟨t.Jobs.length - (i + 1), _, by omega, Ent.wk [0, 1], i + 1, o, by omega, rfl, hinv, rfl⟩)
 ·have hge' : t.Jobs.length = i := by omega
  subst hge'
  have hdi : decide (((t.Jobs.length : Nat) : Int) < ((t.Jobs.length : Nat) : Int)) = false := by simp
  have hoe : pendGo t.Jobs = o := by rw [hinv, List.drop_length, pendGo, List.append_nil]
  clear hinv
  refine sv3 ?_
  apply hK
  rw [hoe] at hca ⊢
  refine evl ?_
  refine scs ?_
  refine ck e102 (hca) rfl ?_
  refine evl ?_
  refine Fin.nt results36 [2] ?_ ?_ ?_ <;> try trivial
  all_goals exact entd
theorem pendGo_nz {J : List TJob} (h : ∀ j ∈ J, tjobOk j = true) : nz (pendGo J) = pendGo J := nz_handles (pendGo_ok J h)
theorem c35 (t : Table) (hz : sizTable t <= 1048576) : Ctr prog 35 [.agg ((encTable t).map .dat)] [] (.one (.own 0)) [.vec 1 true ((pendingM t).map encI)] := by
 have hmx : maxLen = 9223372036854775807 := rfl
 have hct := c14 t hz
 obtain ⟨z1, z2, z3, z4, z5⟩ := table_len hz
 have hcp := fun j hs hk hn ho => c109 j hs hk hn ho
 simp only [encTable, encTJob, List.map_cons, List.map_nil] at hct hcp ⊢
 cases h0 : tableOk t with
 | false =>
  have hg : pendingM t = [] := by rw [pendingM, pendAll, h0]; rfl
  rw [h0] at hct
  rw [hg]
  refine Ctr.bd mixed func35 rfl ?_
  refine evl ?_
  refine scs ?_
  refine ck e14 (hct) rfl ?_
  refine evl ?_
  refine LoopK_intro (fun zn zs => ∃ i : Nat, i <= 0 /\ zn = 0 - i /\ zs = mkSt [(5, .one (.dat (.int .i64 i))), (1, .one (.ptr (.own 0 0 0))), (3, .one (.own 1)), (4, .one (.dat (.bool false)))] [.box [.dat (.sl 1 (t.Base.Mem.Heap.Bytes.map encI)), .dat (.sl 1 (t.Base.Mem.Heap.Class.map encI)), .dat (.sl 1 (t.Base.Mem.Lists.Global.map encSList)), .dat (.sl 1 (t.Base.Mem.Lists.Own.map encSList)), .dat (.int .i64 t.Base.Clock.Epoch), .dat (.sl 4 (t.Base.Clock.Pins.map encPin)), .dat (.sl 1 (t.Base.Limbo.map encLList)), .dat (.sl 1 (t.Base.Haz.map encI)), .dat (.sl 3 (t.Bkts.map encBkt)), .dat (.sl 32 (t.Jobs.map encTJob)), .dat (.sl 1 (t.Todo.map encTQueue)), .dat (.sl 6 (t.Log.map encTEv)), .dat (.int .i64 t.Serial)], .vec 1 true []]) (0) _
   (Ent.wk [0, 1]) ⟨0, by omega, by omega, rfl⟩ ?_
  rintro zn zs ⟨i, hi, rfl, rfl⟩ K hK
  rcases Nat.lt_or_ge i (0) with hlt | hge
  ·have hdi : decide ((i : Int) < ((0 : Nat) : Int)) = true := decide_eq_true (by omega)
   have hw := wrap_succ hlt (by decide)
   exact absurd hlt (Nat.not_lt_zero _)
  ·have hge' : 0 = i := by omega
   subst hge'
   have hdi : decide (((0 : Nat) : Int) < ((0 : Nat) : Int)) = false := by simp
   have hd0 : decide (((0 : Nat) : Int) < 3) = true := rfl
   refine sv5 ?_
   apply hK
   refine evl ?_
   refine Fin.nt results35 [1] ?_ ?_ ?_ <;> try trivial
   all_goals exact entd
 | true =>
 obtain ⟨hbo, _, h3, h4, _⟩ := tableOk_parts h0
 have hpn := pendGo_nz h4
 rw [h0] at hct
 unfold pendingM
 rw [pendAll, h0, cond_true, ascN_nz, hpn]
 refine Ctr.bd mixed func35 rfl ?_
 refine evl ?_
 refine scs ?_
 refine ck e14 (hct) rfl ?_
 refine evl ?_
 refine LoopK_intro (fun zn zs => ∃ (i : Nat) (o : List Int), i <= 3 /\ zn = 3 - i /\ (putsN [] (pendGo t.Jobs) = putsN o (pendGo (t.Jobs.drop i)) /\ o.length <= 12 * i) /\ zs = mkSt [(5, .one (.dat (.int .i64 i))), (1, .one (.ptr (.own 0 0 0))), (3, .one (.own 1)), (4, .one (.dat (.bool true)))] [.box [.dat (.sl 1 (t.Base.Mem.Heap.Bytes.map encI)), .dat (.sl 1 (t.Base.Mem.Heap.Class.map encI)), .dat (.sl 1 (t.Base.Mem.Lists.Global.map encSList)), .dat (.sl 1 (t.Base.Mem.Lists.Own.map encSList)), .dat (.int .i64 t.Base.Clock.Epoch), .dat (.sl 4 (t.Base.Clock.Pins.map encPin)), .dat (.sl 1 (t.Base.Limbo.map encLList)), .dat (.sl 1 (t.Base.Haz.map encI)), .dat (.sl 3 (t.Bkts.map encBkt)), .dat (.sl 32 (t.Jobs.map encTJob)), .dat (.sl 1 (t.Todo.map encTQueue)), .dat (.sl 6 (t.Log.map encTEv)), .dat (.int .i64 t.Serial)], .vec 1 true (o.map encI)]) (3) _
  (Ent.wk [0, 1]) ⟨0, [], by omega, by omega, ⟨rfl, Nat.le_refl _⟩, rfl⟩ ?_
 rintro zn zs ⟨i, o, hi, rfl, hinv, rfl⟩ K hK
 rcases Nat.lt_or_ge i (3) with hlt | hge
 ·have hdi : decide ((i : Int) < ((3 : Nat) : Int)) = true := decide_eq_true (by omega)
  have hw := wrap_succ hlt (show 3 <= maxLen by decide)
  obtain ⟨hv1, hv2⟩ := hinv
  have hd3 : decide ((i : Int) < 3) = true := decide_eq_true (by omega)
  have hgi : i < t.Jobs.length := by omega
  obtain ⟨j, hji⟩ : ∃ j, t.Jobs[i] = j := ⟨_, rfl⟩
  have hjm : j ∈ t.Jobs := hji ▸ List.getElem_mem hgi
  obtain ⟨k0, kn, ko, _⟩ := tjob_parts (h4 j hjm)
  have hpm := pendM_len j
  rw [List.drop_eq_getElem_cons hgi, hji, pendGo, putsN_app] at hv1
  have hcj := hcp j (z4 j hjm) k0 kn ko
  obtain ⟨L, hL⟩ : ∃ L, pendM j = L := ⟨_, rfl⟩
  rw [hL] at hv1 hpm hcj
  refine sv44 ?_
  refine scs ?_
  refine ck e109 (hcj) rfl ?_
  refine sv44 ?_
  refine scs ?_
  cases hbz : j.Busy with
  | false =>
   rw [hbz, cond_false] at hv1
   refine LoopK_intro (fun zn zs => ∃ k : Nat, k <= L.length /\ zn = L.length - k /\ zs = mkSt [(7, .one (.dat (.int .i64 k))), (1, .one (.ptr (.own 0 0 0))), (5, .one (.dat (.int .i64 i))), (3, .one (.own 1)), (4, .one (.dat (.bool true))), (6, .one (.own 2))] [.box [.dat (.sl 1 (t.Base.Mem.Heap.Bytes.map encI)), .dat (.sl 1 (t.Base.Mem.Heap.Class.map encI)), .dat (.sl 1 (t.Base.Mem.Lists.Global.map encSList)), .dat (.sl 1 (t.Base.Mem.Lists.Own.map encSList)), .dat (.int .i64 t.Base.Clock.Epoch), .dat (.sl 4 (t.Base.Clock.Pins.map encPin)), .dat (.sl 1 (t.Base.Limbo.map encLList)), .dat (.sl 1 (t.Base.Haz.map encI)), .dat (.sl 3 (t.Bkts.map encBkt)), .dat (.sl 32 (t.Jobs.map encTJob)), .dat (.sl 1 (t.Todo.map encTQueue)), .dat (.sl 6 (t.Log.map encTEv)), .dat (.int .i64 t.Serial)], .vec 1 true (o.map encI), .vec 1 true (L.map encI)]) (L.length) _
    (Ent.wk [0, 1, 2]) ⟨0, by omega, by omega, rfl⟩ ?_
   rintro zn zs ⟨k, hi2, rfl, rfl⟩ K2 hK2
   rcases Nat.lt_or_ge k (L.length) with hlt2 | hge2
   ·have hdi2 : decide ((k : Int) < ((L.length : Nat) : Int)) = true := decide_eq_true (by omega)
    have hw2 := wrap_succ hlt2 (show L.length <= maxLen by omega)
    refine sv56 ?_
    refine scs ?_
    apply hK2
    refine sv56 ?_
    apply hK
    exact ⟨3 - (i + 1), _, by omega, Ent.wk [0, 1], i + 1, o, by omega, rfl, ⟨hv1, by omega⟩, rfl⟩
   ·have hge2' : L.length = k := by omega
    subst hge2'
    have hdi2 : decide (((L.length : Nat) : Int) < ((L.length : Nat) : Int)) = false := by simp
    refine sv57 ?_
    apply hK2
    refine sv0 ?_
    (apply hK
     exact ⟨3 - (i + 1), _, by omega, Ent.wk [0, 1], i + 1, o, by omega, rfl, ⟨hv1, by omega⟩, rfl⟩)
  | true =>
   rw [hbz, cond_true] at hv1
   refine LoopK_intro (fun zn zs => ∃ k : Nat, k <= L.length /\ zn = L.length - k /\ zs = mkSt [(7, .one (.dat (.int .i64 k))), (1, .one (.ptr (.own 0 0 0))), (5, .one (.dat (.int .i64 i))), (3, .one (.own 1)), (4, .one (.dat (.bool true))), (6, .one (.own 2))] [.box [.dat (.sl 1 (t.Base.Mem.Heap.Bytes.map encI)), .dat (.sl 1 (t.Base.Mem.Heap.Class.map encI)), .dat (.sl 1 (t.Base.Mem.Lists.Global.map encSList)), .dat (.sl 1 (t.Base.Mem.Lists.Own.map encSList)), .dat (.int .i64 t.Base.Clock.Epoch), .dat (.sl 4 (t.Base.Clock.Pins.map encPin)), .dat (.sl 1 (t.Base.Limbo.map encLList)), .dat (.sl 1 (t.Base.Haz.map encI)), .dat (.sl 3 (t.Bkts.map encBkt)), .dat (.sl 32 (t.Jobs.map encTJob)), .dat (.sl 1 (t.Todo.map encTQueue)), .dat (.sl 6 (t.Log.map encTEv)), .dat (.int .i64 t.Serial)], .vec 1 true ((putsN o (L.take k)).map encI), .vec 1 true (L.map encI)]) (L.length) _
    (Ent.wk [0, 1, 2]) ⟨0, by omega, by omega, rfl⟩ ?_
   rintro zn zs ⟨k, hi2, rfl, rfl⟩ K2 hK2
   rcases Nat.lt_or_ge k (L.length) with hlt2 | hge2
   ·have hdi2 : decide ((k : Int) < ((L.length : Nat) : Int)) = true := decide_eq_true (by omega)
    have hw2 := wrap_succ hlt2 (show L.length <= maxLen by omega)
    have hpk := putsN_len (L.take k) o
    have htk : L.take (k + 1) = L.take k ++ [L[k]] := List.take_succ_eq_append_getElem hlt2
    have hlk : (L.take k).length <= L.length := by rw [List.length_take]; omega
    refine sv58 ?_
    refine scs ?_
    refine CallK_os [1] e100 (by simp [osOk, St.obj, find]) (c100 (putsN o (L.take k)) (by omega) L[k]) rfl ?_
    refine sv58 ?_
    refine scs ?_
    rw [<- putsN_snoc, <- htk]
    (apply hK2
     exact ⟨L.length - (k + 1), _, by omega, Ent.wk [0, 3, 2], k + 1, by omega, rfl, rfl⟩)
   ·have hge2' : L.length = k := by omega
    subst hge2'
    have hdi2 : decide (((L.length : Nat) : Int) < ((L.length : Nat) : Int)) = false := by simp
    have hpk := putsN_len L o
    rw [List.take_length]
    refine sv57 ?_
    apply hK2
    refine sv0 ?_
    (apply hK
     exact ⟨3 - (i + 1), _, by omega, Ent.wk [0, 1], i + 1, (putsN o L), by omega, rfl, ⟨hv1, by omega⟩, rfl⟩)
 ·have hge' : 3 = i := by omega
  subst hge'
  have hdi : decide (((3 : Nat) : Int) < ((3 : Nat) : Int)) = false := by simp
  have hd3 : decide (((3 : Nat) : Int) < 3) = false := rfl
  have hoe : putsN [] (pendGo t.Jobs) = o := by
   rw [hinv.1, List.drop_of_length_le (by omega), pendGo]; rfl
  refine sv27 ?_
  apply hK
  rw [hoe]
  refine evl ?_
  refine Fin.nt results35 [1] ?_ ?_ ?_ <;> try trivial
  all_goals exact entd
theorem putsN_nod : ∀ (l a : List Int), (putsN a l).length = a.length + l.length ↔ (l.Nodup /\ ∀ x ∈ l, x ∉ a)
 | [], a => by simp [putsN]
 | x :: l, a => by
  show (putsN (putN a x) l).length = _ ↔ _
  by_cases hx : x ∈ a
  ·rw [show putN a x = a from if_pos hx]
   have := putsN_len l a
   rw [List.length_cons]
   exact ⟨fun h => by omega, fun h => absurd hx (h.2 x (by simp))⟩
  ·have h1 := putsN_nod l (insN x a)
   rw [insN_len] at h1
   rw [show putN a x = insN x a from if_neg hx, List.length_cons, show a.length + (l.length + 1) = a.length + 1 + l.length by omega, h1, List.nodup_cons]
   constructor
   ·rintro ⟨h2, h3⟩
    refine ⟨⟨fun hm => h3 x hm (insN_mem.2 (.inl rfl)), h2⟩, fun y hy => ?_⟩
    rcases List.mem_cons.1 hy with rfl | hy
    ·exact hx
    ·exact fun hm => h3 y hy (insN_mem.2 (.inr hm))
   ·rintro ⟨⟨h2, h3⟩, h4⟩
    refine ⟨h3, fun y hy hm => ?_⟩
    rcases insN_mem.1 hm with rfl | hm
    ·exact h2 hy
    ·exact h4 y (List.mem_cons_of_mem _ hy) hm
theorem ascN_nod {l : List Int} (h : ∀ x ∈ l, handleOk x = true) : ((ascN l).length = l.length) ↔ l.Nodup := by
 have := putsN_nod l []
 rw [ascN_nz, nz_handles h]
 simp only [List.length_nil, Nat.zero_add] at this
 rw [this]
 simp
def allOwn (t : Table) : List Int := linkedM t ++ pendingM t
def ownGood (b : Base) (x : Int) : Bool := isLiveM b.Mem x && !inLimboM b.Limbo (x.tmod 32)
def usedM (b : Base) : Int := (tallyM b).getD 4 0
def accM (t : Table) : Bool := tableOk t && (decide (allOwn t).Nodup && ((allOwn t).all (ownGood t.Base) && usedM t.Base == ((allOwn t).length : Int)))
theorem allOwn_len (t : Table) : (allOwn t).length <= 84 := by
 have h1 := linkedM_len t
 have h2 := pendingM_len t
 rw [allOwn, List.length_append]; omega
theorem ascN_sub {l : List Int} : ∀ x ∈ ascN l, x ∈ l := fun x hx => by
 rcases putsN_mem.1 hx with h | h
 ·cases h
 ·exact (List.mem_filter.1 h).1
theorem allOwn_ok (t : Table) : ∀ x ∈ allOwn t, handleOk x = true := fun x hx => by
 rcases List.mem_append.1 hx with h | h
 ·exact chains_handles t x (ascN_sub x h)
 ·exact pendAll_ok t x (ascN_sub x h)
theorem allOwn_no {t : Table} (h : tableOk t = false) : allOwn t = [] := by
 rw [allOwn, linkedM, chainsM, pendingM, pendAll, h]; rfl
theorem nodup_snoc_iff {a b : List Int} {x : Int} : (a ++ x :: b).Nodup -> x ∉ a := fun h hm => (List.nodup_append.1 h).2.2 x hm x (by simp) rfl
theorem nodup_snoc {a : List Int} {x : Int} (h : a.Nodup) (hx : x ∉ a) : (a ++ [x]).Nodup :=
 List.nodup_append.2 ⟨h, by simp, fun y hy z hz e => hx (by rw [List.mem_singleton.1 hz] at e; exact e ▸ hy)⟩
def ownedM (b : Base) (l : List Int) : Bool := ((l.length : Int) == usedM b) && l.all (ownGood b)
theorem c225 (b : Base) (hz : sizBase b <= 1048576) (hs : shapedM b.Mem.Heap = true) (x : Int) : Ctr prog 225 [.one (.dat (.int .i64 x)), .one (.ptr (.ro 8 [encBase b] 0 0))] [] (.one (.dat (.bool (!ownGood b x)))) [] := by
 obtain ⟨z1, z2, z3, z4, z5, z6⟩ := base_len hz
 have hcl := c80 b.Mem z1 hs x
 simp only [encMem, List.map_cons, List.map_nil] at hcl
 simp only [encBase, List.map_cons, List.map_nil]
 refine Ctr.bd mixed func225 rfl ?_
 refine evl ?_
 refine scs ?_
 refine ck e80 (hcl) rfl ?_
 refine evl ?_
 refine scs ?_
 refine ck e226 (c226 b.Limbo z3 z6 (x.tmod 32)) rfl ?_
 refine evl ?_
 refine scs ?_
 refine Fin.nt results225 [] ?_ ?_ ?_ <;> try trivial
 (refine rsl ?_; try exact .intro)
 rw [ownGood]
 cases isLiveM b.Mem x <;> simp
theorem c108 (b : Base) (hz : sizBase b <= 1048576) (h : baseOk b = true) (l : List Int) (hl : l.length <= 1048576) : Ctr prog 108 [.agg ((encBase b).map .dat), .one (.dat (.sl 1 (l.map encI)))] [] (.one (.dat (.bool (ownedM b l)))) [] := by
 have hmx : maxLen = 9223372036854775807 := rfl
 have hs := (baseOk_parts h).2.2.2.2
 have hct := c224 b hz
 have htl := tallyM_len b
 have h4 : 4 < (tallyM b).length := by omega
 have hu : (tallyM b)[4] = usedM b := by rw [usedM, List.getD_eq_getElem?_getD, List.getElem?_eq_getElem h4]; rfl
 have hcf := c78_k1 l (by omega) e225 (fun x _ => c225 b hz hs x)
 simp only [encBase, List.map_cons, List.map_nil] at hct hcf ⊢
 refine Ctr.bd mixed func108 rfl ?_
 refine sv14 ?_
 refine scs ?_
 refine ck e224 (hct) rfl ?_
 simp (maxSteps := 2000000) only [go_sem, seval, getD_map h4, hu, htl, encI]
 refine scs ?_
 refine ck e78 (hcf) rfl ?_
 refine sv14 ?_
 refine scs ?_
 refine Fin.nt results108 [] ?_ ?_ ?_ <;> try trivial
 (refine rsl ?_; try exact .intro)
 rw [ownedM, <- any_not_all]
 cases (l.length : Int) == usedM b <;> simp
theorem c34 (t : Table) (hz : sizTable t <= 1048576) : Ctr prog 34 [.agg ((encTable t).map .dat)] [] (.one (.dat (.bool (accM t)))) [] := by
 have hmx : maxLen = 9223372036854775807 := rfl
 obtain ⟨z1, _⟩ := table_len hz
 have hcl := c38 t hz
 have hcp := c36 t hz
 have hct := c16 t hz
 have hll := linkedM_len t
 have hpl := pendingM_len t
 have hal := allOwn_len t
 have hco := fun h => c108 t.Base z1 h (allOwn t) (by omega)
 have hca := c102 (allOwn t) (by omega)
 have hck := c107 [linkedM t, pendingM t] (by simp) (by simp [sumIL]; omega)
 have hao : linkedM t ++ pendingM t = allOwn t := rfl
 simp only [encIL, List.map_cons, List.map_nil, List.flatten_cons, List.flatten_nil, List.append_nil, hao] at hck
 have hnd : (((ascN (allOwn t)).length : Int) == ((allOwn t).length : Int)) = decide (allOwn t).Nodup := by
  rw [Bool.eq_iff_iff, beq_iff_eq, decide_eq_true_eq, <- ascN_nod (allOwn_ok t)]
  omega
 have hac : accM t = (tableOk t && (decide (allOwn t).Nodup && ownedM t.Base (allOwn t))) := by
  rw [accM, ownedM]
  congr 2
  rw [Bool.and_comm]
  congr 1
  exact Bool.beq_comm
 rw [hac]
 cases h0 : tableOk t with
 | false =>
  rw [h0] at hct
  simp only [encTable, List.map_cons, List.map_nil] at hct hcl hcp ⊢
  refine Ctr.bd mixed func34 rfl ?_
  refine evl ?_
  refine scs ?_
  refine ck e38 (hcl) rfl ?_
  refine evl ?_
  refine ck e36 (hcp) rfl ?_
  refine sv14 ?_
  repeat ((with_reducible show _ = true /\ _); refine ⟨by kernel_rfl, ?_⟩)
  refine scs ?_
  refine ck e107 (hck) rfl ?_
  refine sv14 ?_
  refine scs ?_
  refine ck e16 (hct) rfl ?_
  refine sv14 ?_
  refine scs ?_
  first | refine CCallK_of (.one .emp) ?_ | refine CCallK_og (.one .emp) ?_
  refine evl ?_
  first | refine CCallK_of (.one (.dat (.bool false))) ?_ | refine CCallK_og (.one (.dat (.bool false))) ?_
  refine evl ?_
  refine Fin.nt results34 [] ?_ ?_ ?_ <;> try trivial
 | true =>
  rw [h0] at hct
  rw [Bool.true_and]
  have hco := hco (tableOk_parts h0).1
  simp only [encTable, encBase, List.map_cons, List.map_nil] at hct hcl hcp hco ⊢
  refine Ctr.bd mixed func34 rfl ?_
  refine evl ?_
  refine scs ?_
  refine ck e38 (hcl) rfl ?_
  refine evl ?_
  refine ck e36 (hcp) rfl ?_
  refine sv14 ?_
  repeat ((with_reducible show _ = true /\ _); refine ⟨by kernel_rfl, ?_⟩)
  refine scs ?_
  refine ck e107 (hck) rfl ?_
  refine sv14 ?_
  refine scs ?_
  refine ck e16 (hct) rfl ?_
  refine sv14 ?_
  refine scs ?_
  refine Or.inr (Or.inl ?_)
  refine ck e102 (hca) rfl ?_
  simp (maxSteps := 2000000) only [go_sem, seval, hnd]
  refine scs ?_
  refine ck e108 (hco) rfl ?_
  refine evl ?_
  refine scs ?_
  refine Fin.nt results34 [] ?_ ?_ ?_ <;> try trivial
  (refine rsl ?_; try exact .intro)
  cases decide (allOwn t).Nodup <;> simp
theorem c33 (t : Table) (hz : sizTable t <= 1048576) : Ctr prog 33 [.agg ((encTable t).map .dat)] [] (.one (.dat (.bool (accM t)))) [] := by
 have hmx : maxLen = 9223372036854775807 := rfl
 obtain ⟨z1, _⟩ := table_len hz
 obtain ⟨zm, zp, zl, zr, _, _⟩ := base_len z1
 have hcl := c37 t hz
 have hcp := c35 t hz
 have hct := c14 t hz
 have hcy := c106 t.Base z1
 have hcv := fun hs h => c77 t.Base.Mem zm hs h
 have hci := fun s => c104 t.Base.Limbo zl zr s
 have hll := linkedM_len t
 have hpl := pendingM_len t
 have hal := allOwn_len t
 have hao : linkedM t ++ pendingM t = allOwn t := rfl
 have hfl : ∀ r ∈ (pendingM t).map encI, ∀ d ∈ r, d.flat = true := by
  intro r hr d hd
  obtain ⟨y, _, rfl⟩ := List.mem_map.1 hr
  simp only [encI, List.mem_cons, List.not_mem_nil, or_false] at hd
  subst hd; rfl
 have hsh : ∀ x ∈ allOwn t, shapedM t.Base.Mem.Heap = true := fun x hx => by
  cases h0 : tableOk t with
  | false => rw [allOwn_no h0] at hx; cases hx
  | true => exact (baseOk_parts (tableOk_parts h0).1).2.2.2.2
 have hok := allOwn_ok t
 have htl := tallyM_len t.Base
 have h4 : 4 < (tallyM t.Base).length := by omega
 have hu : (tallyM t.Base)[4] = usedM t.Base := by rw [usedM, List.getD_eq_getElem?_getD, List.getElem?_eq_getElem h4]; rfl
 have hac : accM t = (tableOk t && (decide (allOwn t).Nodup && ((allOwn t).all (ownGood t.Base) && usedM t.Base == ((allOwn t).length : Int)))) := rfl
 have hno := @allOwn_no t
 rw [hac]
 have haa : List.map encI (linkedM t) ++ List.map encI (pendingM t) = (allOwn t).map encI := by rw [<- List.map_append]; rfl
 generalize allOwn t = A at hal hsh hok haa hno ⊢
 simp only [encTable, encBase, encMem, List.map_cons, List.map_nil] at hct hcl hcp hcy hcv ⊢
 refine Ctr.bd mixed func33 rfl ?_
 refine evl ?_
 refine scs ?_
 refine ck e37 (hcl) rfl ?_
 refine evl ?_
 refine ck e35 (hcp) rfl ?_
 simp (maxSteps := 2000000) only [go_sem, seval, haa]
 repeat ((with_reducible show _ = true /\ _); refine ⟨by kernel_rfl, ?_⟩)
 refine scs ?_
 refine LoopK_intro (fun zn zs => ∃ i : Nat, i <= A.length /\ zn = A.length - i /\ ((A.take i).Nodup /\ (A.take i).all (ownGood t.Base) = true) /\ zs = mkSt [(4, .one (.dat (.int .i64 i))), (1, .one (.ptr (.own 0 0 0))), (3, .one (.own 1))] [.box [.dat (.sl 1 (t.Base.Mem.Heap.Bytes.map encI)), .dat (.sl 1 (t.Base.Mem.Heap.Class.map encI)), .dat (.sl 1 (t.Base.Mem.Lists.Global.map encSList)), .dat (.sl 1 (t.Base.Mem.Lists.Own.map encSList)), .dat (.int .i64 t.Base.Clock.Epoch), .dat (.sl 4 (t.Base.Clock.Pins.map encPin)), .dat (.sl 1 (t.Base.Limbo.map encLList)), .dat (.sl 1 (t.Base.Haz.map encI)), .dat (.sl 3 (t.Bkts.map encBkt)), .dat (.sl 32 (t.Jobs.map encTJob)), .dat (.sl 1 (t.Todo.map encTQueue)), .dat (.sl 6 (t.Log.map encTEv)), .dat (.int .i64 t.Serial)], .vec 1 true (A.map encI)]) (A.length) _
  (Ent.wk [0, 3]) ⟨0, by omega, by omega, ⟨List.nodup_nil, rfl⟩, rfl⟩ ?_
 rintro zn zs ⟨i, hi, rfl, hinv, rfl⟩ K hK
 rcases Nat.lt_or_ge i (A.length) with hlt | hge
 ·have hdi : decide ((i : Int) < ((A.length : Nat) : Int)) = true := decide_eq_true (by omega)
  have hw := wrap_succ hlt (show A.length <= maxLen by omega)
  obtain ⟨hv1, hv2⟩ := hinv
  have hs := hsh _ (List.getElem_mem hlt)
  have hxo := hok _ (List.getElem_mem hlt)
  have hch := c103 (A.take i) (by rw [List.length_take]; omega) A[i]
  rw [List.map_take] at hch
  have hsp : A = A.take i ++ A[i] :: A.drop (i + 1) := by rw [<- List.drop_eq_getElem_cons hlt, List.take_append_drop]
  have htk : A.take (i + 1) = A.take i ++ [A[i]] := List.take_succ_eq_append_getElem hlt
  obtain ⟨x, hxi⟩ : ∃ x, A[i] = x := ⟨_, rfl⟩
  rw [hxi] at hxo hch hsp htk
  have hslot := handle_slot hxo
  have hcs := c105 x
  rw [hslot] at hcs
  have hcvx := hcv hs x
  have hbad : ((A.take i).any fun y => y == x) = true \/ ownGood t.Base x = false -> (decide A.Nodup && (A.all (ownGood t.Base) && usedM t.Base == (A.length : Int))) = false := by
   intro h
   rcases h with h | h
   ·have hm : x ∈ A.take i := by simpa using h
    have hnn : ¬ A.Nodup := fun hn => nodup_snoc_iff (hsp ▸ hn) hm
    rw [decide_eq_false hnn, Bool.false_and]
   ·have hall : A.all (ownGood t.Base) = false := by rw [hsp, List.all_append, List.all_cons, h]; simp
    rw [hall, Bool.false_and, Bool.and_false]
  cases hb1 : ((A.take i).any fun y => y == x) with
  | true =>
   rw [hb1] at hch
   refine sv59 ?_
   refine scs ?_
   first | refine CCallK_pl e103 (hch) rfl rfl ?_ | refine CCallK_pm e103 (hch) rfl rfl ?_
   refine sv59 ?_
   refine scs ?_
   first | refine CCallK_of (.one (.dat (.bool false))) ?_ | refine CCallK_og (.one (.dat (.bool false))) ?_
   refine sv59 ?_
   refine scs ?_
   first | refine CCallK_of (.one (.dat (.int .i64 0))) ?_ | refine CCallK_og (.one (.dat (.int .i64 0))) ?_
   refine sv59 ?_
   refine scs ?_
   first | refine CCallK_of (.one (.dat (.bool false))) ?_ | refine CCallK_og (.one (.dat (.bool false))) ?_
   refine sv59 ?_
   refine scs ?_
   apply hK
   refine sv59 ?_
   refine Fin.nt results33 [] ?_ ?_ ?_ <;> try trivial
   (refine rsl ?_; try exact .intro)
   rw [hbad (.inl hb1), Bool.and_false]
  | false =>
   rw [hb1] at hch
   cases hb2 : isLiveM t.Base.Mem x with
   | false =>
    rw [hb2] at hcvx
    refine sv59 ?_
    refine scs ?_
    first | refine CCallK_pl e103 (hch) rfl rfl ?_ | refine CCallK_pm e103 (hch) rfl rfl ?_
    refine sv59 ?_
    refine scs ?_
    refine ck e77 (hcvx) rfl ?_
    refine sv59 ?_
    refine scs ?_
    first | refine CCallK_of (.one (.dat (.int .i64 0))) ?_ | refine CCallK_og (.one (.dat (.int .i64 0))) ?_
    refine sv59 ?_
    refine scs ?_
    first | refine CCallK_of (.one (.dat (.bool false))) ?_ | refine CCallK_og (.one (.dat (.bool false))) ?_
    refine sv59 ?_
    refine scs ?_
    apply hK
    refine sv59 ?_
    refine Fin.nt results33 [] ?_ ?_ ?_ <;> try trivial
    (refine rsl ?_; try exact .intro)
    rw [hbad (.inr (by rw [ownGood, hb2]; rfl)), Bool.and_false]
   | true =>
    rw [hb2] at hcvx
    refine sv59 ?_
    refine scs ?_
    first | refine CCallK_pl e103 (hch) rfl rfl ?_ | refine CCallK_pm e103 (hch) rfl rfl ?_
    refine sv59 ?_
    refine scs ?_
    refine ck e77 (hcvx) rfl ?_
    refine sv59 ?_
    refine scs ?_
    refine ck e105 (hcs) rfl ?_
    refine sv59 ?_
    refine scs ?_
    refine ck e104 (hci (x.tmod 32)) rfl ?_
    refine sv59 ?_
    refine scs ?_
    constructor <;> intro hq
    ·apply hK
     refine sv59 ?_
     refine Fin.nt results33 [] ?_ ?_ ?_ <;> try trivial
     (refine rsl ?_; try exact .intro)
     rw [hbad (.inr (by rw [ownGood, hb2, hq]; rfl)), Bool.and_false]
    ·have hg : x ∉ A.take i /\ ownGood t.Base x = true := by
      refine ⟨fun hm => ?_, by rw [ownGood, hb2, hq]; rfl⟩
      have : ((A.take i).any fun y => y == x) = true := by simpa using hm
      rw [hb1] at this; cases this
     (apply hK
      exact ⟨A.length - (i + 1), _, by omega, Ent.wk [0, 1], i + 1, by omega, rfl, ⟨by rw [htk]; exact nodup_snoc hv1 hg.1, by rw [htk, List.all_append, hv2]; simp [hg.2]⟩, rfl⟩)
 ·have hge' : A.length = i := by omega
  subst hge'
  have hdi : decide (((A.length : Nat) : Int) < ((A.length : Nat) : Int)) = false := by simp
  rw [List.take_length] at hinv
  obtain ⟨hv1, hv2⟩ := hinv
  refine sv3 ?_
  apply hK
  rw [hv2, decide_eq_true hv1, Bool.true_and, Bool.true_and]
  cases h0 : tableOk t with
  | false =>
   rw [h0] at hct
   refine evl ?_
   refine scs ?_
   refine ck e14 (hct) rfl ?_
   refine evl ?_
   first | refine CCallK_of (.one (.dat (.sl 1 [[.int .i64 0], [.int .i64 0], [.int .i64 0], [.int .i64 0], [.int .i64 0]]))) ?_ | refine CCallK_og (.one (.dat (.sl 1 [[.int .i64 0], [.int .i64 0], [.int .i64 0], [.int .i64 0], [.int .i64 0]]))) ?_
   refine evl ?_
   refine scs ?_
   refine Fin.nt results33 [] ?_ ?_ ?_ <;> try trivial
  | true =>
   rw [h0] at hct
   refine evl ?_
   refine scs ?_
   refine ck e14 (hct) rfl ?_
   refine evl ?_
   refine Or.inr (Or.inl ?_)
   refine ck e106 (hcy) rfl ?_
   simp (maxSteps := 2000000) only [go_sem, seval, getD_map h4, hu, htl, encI]
   refine scs ?_
   refine Fin.nt results33 [] ?_ ?_ ?_ <;> try trivial
end Go.Proofs.YtcanhdhlbghfiaaGreat.Mod
namespace Go.Proofs.YtcanhdhlbghfiaaGreat.fnExactTableAccounted
open Go.Proofs.Tryz Go.Abs Go.Proofs.YtcanhdhlbghfiaaGreat.Ty Go.ChangeShapes Go.WideShapes Go.ChangeAt Go.RowKit Go.Proofs.YtcanhdhlbghfiaaGreat.Mod
set_option linter.unusedSimpArgs false
set_option linter.unusedVariables false
set_option maxHeartbeats 8000000
set_option maxRecDepth 100000
theorem c8 (t : Table) (hkt : t.lok) : Ctr prog 8 [.agg ((encTable t).map .dat)] [] (.one (.dat (.bool true))) [] := by
 simp only [encTable, List.map_cons, List.map_nil]
 refine Ctr.bd mixed func8 rfl ?_
 refine sv14 ?_
 repeat ((with_reducible show _ = true /\ _); refine ⟨by kernel_rfl, ?_⟩)
 refine CallK_pure e13 (c13 t hkt 1048576 (by decide) (by decide)) rfl ?_
 refine sv14 ?_
 repeat ((with_reducible show _ = true /\ _); refine ⟨by kernel_rfl, ?_⟩)
 constructor <;> intro h
 ·refine Fin.nt results8 [] ?_ ?_ ?_ <;> try trivial
 obtain ⟨hst, hzt, hgt, hht⟩ := szL_le (by decide) h
 clear h
 repeat ((with_reducible show _ = true /\ _); refine ⟨by kernel_rfl, ?_⟩)
 first
  | refine CallK_pure e15 (c15 t hst) rfl ?_
  | refine CCallK_plain e15 (c15 t hst) rfl rfl ?_ (fun _ => by simp)
  | refine Or.inl (CCallK_plain e15 (c15 t hst) rfl rfl ?_ (fun _ => by simp))
  | refine Or.inr ⟨by kernel_rfl, EffK_pure e15 (c15 t hst) rfl ?_⟩
  | refine Or.inr (EffK_pure e15 (c15 t hst) rfl ?_)
 refine sv14 ?_
 repeat ((with_reducible show _ = true /\ _); refine ⟨by kernel_rfl, ?_⟩)
 first
  | refine CallK_pure e33 (c33 t hst) rfl ?_
  | refine CCallK_plain e33 (c33 t hst) rfl rfl ?_ (fun _ => by simp)
  | refine Or.inl (CCallK_plain e33 (c33 t hst) rfl rfl ?_ (fun _ => by simp))
  | refine Or.inr ⟨by kernel_rfl, EffK_pure e33 (c33 t hst) rfl ?_⟩
  | refine Or.inr (EffK_pure e33 (c33 t hst) rfl ?_)
 refine sv14 ?_
 repeat ((with_reducible show _ = true /\ _); refine ⟨by kernel_rfl, ?_⟩)
 first
  | refine CallK_pure e15 (c15 t hst) rfl ?_
  | refine CCallK_plain e15 (c15 t hst) rfl rfl ?_ (fun _ => by simp)
  | refine Or.inl (CCallK_plain e15 (c15 t hst) rfl rfl ?_ (fun _ => by simp))
  | refine Or.inr ⟨by kernel_rfl, EffK_pure e15 (c15 t hst) rfl ?_⟩
  | refine Or.inr (EffK_pure e15 (c15 t hst) rfl ?_)
 refine sv14 ?_
 repeat ((with_reducible show _ = true /\ _); refine ⟨by kernel_rfl, ?_⟩)
 first
  | refine CallK_pure e34 (c34 t hst) rfl ?_
  | refine CCallK_plain e34 (c34 t hst) rfl rfl ?_ (fun _ => by simp)
  | refine Or.inl (CCallK_plain e34 (c34 t hst) rfl rfl ?_ (fun _ => by simp))
  | refine Or.inr ⟨by kernel_rfl, EffK_pure e34 (c34 t hst) rfl ?_⟩
  | refine Or.inr (EffK_pure e34 (c34 t hst) rfl ?_)
 refine sv14 ?_
 repeat ((with_reducible show _ = true /\ _); refine ⟨by kernel_rfl, ?_⟩)
 first
  | refine CallK_pure e15 (c15 t hst) rfl ?_
  | refine CCallK_plain e15 (c15 t hst) rfl rfl ?_ (fun _ => by simp)
  | refine Or.inl (CCallK_plain e15 (c15 t hst) rfl rfl ?_ (fun _ => by simp))
  | refine Or.inr ⟨by kernel_rfl, EffK_pure e15 (c15 t hst) rfl ?_⟩
  | refine Or.inr (EffK_pure e15 (c15 t hst) rfl ?_)
 refine sv14 ?_
 repeat ((with_reducible show _ = true /\ _); refine ⟨by kernel_rfl, ?_⟩)
 first
  | refine CallK_pure e17 (c17 t t hst hst) rfl ?_
  | refine CCallK_plain e17 (c17 t t hst hst) rfl rfl ?_ (fun _ => by simp)
  | refine Or.inl (CCallK_plain e17 (c17 t t hst hst) rfl rfl ?_ (fun _ => by simp))
  | refine Or.inr ⟨by kernel_rfl, EffK_pure e17 (c17 t t hst hst) rfl ?_⟩
  | refine Or.inr (EffK_pure e17 (c17 t t hst hst) rfl ?_)
 refine sv14 ?_
 repeat ((with_reducible show _ = true /\ _); refine ⟨by kernel_rfl, ?_⟩)
 refine Fin.nt results8 [] ?_ ?_ ?_ <;> try trivial
theorem law (dss : List (List D)) (h : WTAll prog 8 f8.params.toList dss) : Ctr prog 8 (argAVs prog f8.params.toList dss) [] (.one (.dat (.bool true))) [] := by
 rw [params8] at *
 simp only [WTAll, List.toList_toArray] at h
 obtain ⟨_, _, rfl, h0, rfl⟩ := h
 obtain ⟨x0, rfl, w0, k0⟩ := decTable _ _ h0
 simp only [argAVs, argAV, List.toList_toArray, underlying41, List.headD_cons]
 exact c8 x0 k0

theorem own : ownKnob prog.godebug = none := by kernel_rfl

set_option maxRecDepth 100000 in
theorem lifted (os : Os) (started : os.Started) (H : Type) (enc : TypeId × Value -> H) :
  ReturnsInHanded {} Tryz.checked os 8 .any (Rows.fnExactTableAccountedSpec.pre6 enc prog f8 Rows.fnExactTableAccountedRow.domain false) (Rows.fnExactTableAccountedSpec.post enc prog f8 false true false false) := by
 refine returnsInHanded_of_change (C := Tryz.checked) own started (by kernel_rfl) func8
  (ChangeSpec.witness6 (enc := enc) (C := Tryz.checked) false ⟨#[], #[.agg #[.slice none 0 0, .slice none 0 0, .slice none 0 0, .slice none 0 0, .int .i64 0, .slice none 0 0, .slice none 0 0, .slice none 0 0, .slice none 0 0, .slice none 0 0, .slice none 0 0, .slice none 0 0, .int .i64 0]], []⟩ 8 (by kernel_rfl) (by kernel_rfl) (by kernel_rfl) (by kernel_rfl)) ?_
 intro W base args ds gs before hval0 hW hcnd _
 have hW' := hW
 obtain ⟨p, q, hA0, hV, rfl, hfz, hnd⟩ := hW'
 have hA : DataW.TrodAll enc prog W 0 (fun _ => true) true f8.params.toList args.toList ds p := hA0
 obtain ⟨dss, h1, h2⟩ := args_rep (n := 8) (by kernel_rfl) (fun j t v hj hv => hval0 j t v (by simpa using hj) (by simpa using hv)) hA
 have hs : Rows.fnExactTableAccountedSpec.fn H (ds ++ gs) = { results := [.lit (.bool true)], args := ds, vars := [] } := by
  obtain ⟨rfl, rfl⟩ := trodVars_none hV
  rw [params8] at hA
  obtain ⟨v0, vs0, d0, ds0, p0, q0, _, rfl, _, _, r0⟩ := trodAll_cons hA
  obtain ⟨_, rfl, _⟩ := trodAll_nil r0
  rfl
 have hc := law_calls (law dss h1) h2
 rw [Array.toArray_toList] at hc
 refine hc.mono fun e W' ⟨he, hb⟩ => ?_
 subst he
 exact ⟨_, rfl, law_post (by kernel_rfl) (by kernel_rfl) rfl hW hs rfl underlying4 hb⟩

theorem closed : joinedFacts prog 8 f8 Rows.fnExactTableAccountedSpec Rows.fnExactTableAccountedRow = true := by
 unfold joinedFacts
 simp only [Bool.and_eq_true, Whole.laidOut, Whole.rowed, Whole.stops, Whole.knobs, Whole.keys, Whole.heard, Whole.enter, Whole.lifts, Whole.make, true_and, and_true]
 repeat' (refine And.intro ?_ ?_)
 all_goals (as_aux_lemma => kernel_rfl)

theorem over : Rows.fnExactTableAccountedRow.holds Tryz.pinned (OpenSpec.ofChange Rows.fnExactTableAccountedSpec) :=
 OpenClaim.holds_of_wide 8 f8 rfl rfl rfl rfl rfl rfl rfl ⟨rfl, rfl, rfl, rfl, rfl⟩ rfl rfl rfl rfl rfl (by kernel_rfl) func8 closed
  (of_decide_eq_true (by kernel_rfl)) (by unfold Func.isWrapper; first | (rw [if_pos (by decide +kernel)]; kernel_rfl) | (rw [if_neg (by decide +kernel)]; exact ⟨rfl, rfl⟩))
  (fun os started H enc _ => lifted os started H enc)

theorem proved : Rows.FnExactTableAccountedSaid :=
 over
end Go.Proofs.YtcanhdhlbghfiaaGreat.fnExactTableAccounted
