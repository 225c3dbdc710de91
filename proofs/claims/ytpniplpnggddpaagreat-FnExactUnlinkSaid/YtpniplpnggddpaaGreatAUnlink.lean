/- FnExactUnlink: the program answers as the statement says, at every argument. -/
import Derived.Test.YtpniplpnggddpaaGreatRows
import Derived.Test.YtpniplpnggddpaaGreatATy
import Derived.Test.YtpniplpnggddpaaGreatAbsTac
import Derived.Test.YtpniplpnggddpaaGreatAbsData
import Derived.Test.YtpniplpnggddpaaGreatWhole
import Derived.Test.YtpniplpnggddpaaGreatABase
import Derived.Test.YtpniplpnggddpaaGreatANum
import Derived.Test.YtpniplpnggddpaaGreatAFam
import Derived.Test.YtpniplpnggddpaaGreatAFam2
import Derived.Test.YtpniplpnggddpaaGreatASok
import Derived.Test.YtpniplpnggddpaaGreatAFam3
import Derived.Test.YtpniplpnggddpaaGreatAMarks
import Derived.Test.YtpniplpnggddpaaGreatABytes
import Derived.Test.YtpniplpnggddpaaGreatASl
import Derived.Test.YtpniplpnggddpaaGreatASl2
import Derived.Test.YtpniplpnggddpaaGreatAHist
import Derived.Test.YtpniplpnggddpaaGreatAHeap
import Derived.Test.YtpniplpnggddpaaGreatALists
import Derived.Test.YtpniplpnggddpaaGreatAStore
import Derived.Test.YtpniplpnggddpaaGreatASorts
import Derived.WalkKit
import Derived.ProofKit
import Derived.OpenShut
namespace Go.Proofs.YtpniplpnggddpaaGreat.Mod
open Go.Proofs.Tryz Go.Abs Go.Proofs.YtpniplpnggddpaaGreat.Ty Go.ChangeShapes Go.WideShapes Go.ChangeAt Go.RowKit
set_option linter.unusedSimpArgs false
set_option linter.unusedVariables false
set_option maxHeartbeats 8000000
set_option maxRecDepth 100000
def writableM (m : Mem) (h : Int) : Int := if isLiveM m h = false then 4 else if hasNodeM m.Heap (h % 32) = false then 2 else 0
def nodeOkM (x : Node) : Bool := nodeOk x.Key x.Val x.Next
def nodeOf (m : Mem) (h : Int) : Node := nodeInM m.Heap (h % 32)
def stepOk (m : Mem) (h : Int) (o : List Int) : Bool := isLiveM m h && hasNodeM m.Heap (h % 32) && !(o.any fun y => y == h) && nodeOkM (nodeOf m h)
def chainGo (m : Mem) : Nat -> Int -> List Int -> Option (List Int)
 | f, h, o => if h = 0 then some o else match f with
  | 0 => none
  | f + 1 => if stepOk m h o = true then chainGo m f (nodeOf m h).Next (o ++ [h]) else none
def chainR (m : Mem) (head : Int) : List Int × Bool := if memOk m = true then (match chainGo m 25 head [] with
 | some l => (l, true)
 | none => ([], false)) else ([], false)
theorem chainGo_zero (m : Mem) (f : Nat) (o : List Int) : chainGo m f 0 o = some o := by
 unfold chainGo; simp
theorem chainGo_bad {m : Mem} {f : Nat} {h : Int} {o : List Int} (h0 : h ≠ 0) (hb : stepOk m h o = false) : chainGo m (f + 1) h o = none := by
 rw [chainGo]; simp [h0, hb]
theorem chainGo_step {m : Mem} {f : Nat} {h : Int} {o : List Int} (h0 : h ≠ 0) (hb : stepOk m h o = true) : chainGo m (f + 1) h o = chainGo m f (nodeOf m h).Next (o ++ [h]) := by
 rw [chainGo]; simp [h0, hb]
theorem nodup_lt : ∀ (n : Nat) (l : List Nat), l.Nodup -> (∀ x ∈ l, x < n) -> l.length <= n
 | 0, l, _, h => by
  cases l with
  | nil => exact Nat.le_refl _
  | cons x l => exact absurd (h x (by simp)) (Nat.not_lt_zero x)
 | n + 1, l, hn, h => by
  by_cases hm : n ∈ l
  ·have h1 := nodup_lt n (l.erase n) (hn.erase n) (fun x hx => by
    have h2 := (hn.mem_erase_iff).1 hx
    have := h x h2.2
    omega)
   rw [List.length_erase_of_mem hm] at h1
   omega
  ·have := nodup_lt n l hn (fun x hx => by
    have h1 := h x hx
    have : x ≠ n := fun e => hm (e ▸ hx)
    omega)
   omega
theorem step_a {m : Mem} {h : Int} {o : List Int} (hq : (bif (writableM m h != 0) then true else o.any fun y => y == h) = true) : stepOk m h o = false := by
 simp only [stepOk]
 cases h1 : isLiveM m h with
 | false => rfl
 | true =>
  cases h2 : hasNodeM m.Heap (h % 32) with
  | false => rfl
  | true =>
   have : writableM m h = 0 := by simp [writableM, h1, h2]
   rw [this] at hq
   have hq : (o.any fun y => y == h) = true := hq
   rw [hq]; rfl
theorem step_b {m : Mem} {h : Int} {o : List Int} (hq : (bif (writableM m h != 0) then true else o.any fun y => y == h) = false) : isLiveM m h = true /\ hasNodeM m.Heap (h % 32) = true /\ stepOk m h o = nodeOkM (nodeOf m h) := by
 cases h1 : isLiveM m h with
 | false =>
  have : writableM m h = 4 := by simp [writableM, h1]
  rw [this] at hq; cases hq
 | true =>
  cases h2 : hasNodeM m.Heap (h % 32) with
  | false =>
   have : writableM m h = 2 := by simp [writableM, h1, h2]
   rw [this] at hq; cases hq
  | true =>
   have : writableM m h = 0 := by simp [writableM, h1, h2]
   rw [this] at hq
   have hq : (o.any fun y => y == h) = false := hq
   exact ⟨rfl, rfl, by simp only [stepOk, h1, h2, hq]; rfl⟩
def Good (m : Mem) (o : List Int) : Prop := o.Nodup /\ ∀ x ∈ o, isLiveM m x = true /\ hasNodeM m.Heap (x % 32) = true /\ nodeOkM (nodeOf m x) = true
theorem live_iff {m : Mem} {h : Int} (hl : isLiveM m h = true) : handleOk h = true /\ stateM m (h % 32) = 3 /\ genInM m.Heap (h % 32) = h / 32 := by
 simp only [isLiveM, Bool.and_eq_true, beq_iff_eq] at hl
 exact ⟨hl.1.1, hl.1.2, hl.2⟩
theorem good_len {m : Mem} {o : List Int} (h : Good m o) : o.length <= 24 := by
 have := nodup_lt 24 (o.map fun x => (x % 32).toNat) (by
  rw [List.Nodup, List.pairwise_map]
  refine List.Pairwise.imp_of_mem (fun {a b} ha hb hne e => hne ?_) h.1
  obtain ⟨a1, _, a3⟩ := live_iff (h.2 a ha).1
  obtain ⟨b1, _, b3⟩ := live_iff (h.2 b hb).1
  have e' : a % 32 = b % 32 := by omega
  rw [e', b3] at a3
  omega) (fun x hx => by
  obtain ⟨y, hy, rfl⟩ := List.mem_map.1 hx
  have := (handleOk_iff y).1 (live_iff (h.2 y hy).1).1
  omega)
 simpa using this
theorem stepOk_iff {m : Mem} {h : Int} {o : List Int} (hs : stepOk m h o = true) : isLiveM m h = true /\ hasNodeM m.Heap (h % 32) = true /\ h ∉ o /\ nodeOkM (nodeOf m h) = true := by
 simp only [stepOk, Bool.and_eq_true, Bool.not_eq_true', List.any_eq_false, beq_iff_eq] at hs
 exact ⟨hs.1.1.1, hs.1.1.2, fun hm => hs.1.2 h hm rfl, hs.2⟩
theorem good_snoc {m : Mem} {h : Int} {o : List Int} (hg : Good m o) (hs : stepOk m h o = true) : Good m (o ++ [h]) := by
 obtain ⟨h1, h2, h3, h4⟩ := stepOk_iff hs
 refine ⟨List.nodup_append.2 ⟨hg.1, by simp, fun a ha b hb e => h3 (by rw [List.mem_singleton.1 hb] at e; exact e ▸ ha)⟩, fun x hx => ?_⟩
 rcases List.mem_append.1 hx with hx | hx
 ·exact hg.2 x hx
 ·rw [List.mem_singleton.1 hx]; exact ⟨h1, h2, h4⟩
theorem chainGo_good {m : Mem} : ∀ {f : Nat} {h : Int} {o l : List Int}, Good m o -> chainGo m f h o = some l -> Good m l
 | 0, h, o, l, hg, hc => by
  rw [chainGo] at hc
  split at hc
  ·cases hc; exact hg
  ·cases hc
 | f + 1, h, o, l, hg, hc => by
  by_cases h0 : h = 0
  ·subst h0; rw [chainGo_zero] at hc; cases hc; exact hg
  ·cases hs : stepOk m h o with
   | true => rw [chainGo_step h0 hs] at hc; exact chainGo_good (good_snoc hg hs) hc
   | false => rw [chainGo_bad h0 hs] at hc; cases hc
theorem chain_good (m : Mem) (head : Int) : (chainR m head).1 = [] \/ (memOk m = true /\ Good m (chainR m head).1) := by
 unfold chainR
 split
 ·rename_i hm
  split
  ·rename_i l hl
   exact .inr ⟨hm, chainGo_good ⟨List.nodup_nil, by simp⟩ hl⟩
  ·exact .inl rfl
 ·exact .inl rfl
theorem c36 (m : Mem) (hz : sizMem m <= 1048576) (hs : shapedM m.Heap = true) (h : Int) : Ctr prog 36 [.agg ((encMem m).map .dat), .one (.dat (.int .i64 h))] [] (.one (.dat (.int .i64 (writableM m h)))) [] := by
 have hcl := c82 m hz hs h
 have hch := fun s => c83 m.Heap hs s
 simp only [encHeap, List.map_cons, List.map_nil] at hch
 simp only [encMem, List.map_cons, List.map_nil] at hcl ⊢
 cases hl : isLiveM m h with
 | false =>
  have hr : writableM m h = 4 := by simp [writableM, hl]
  rw [hr]
  refine Ctr.bd mixed func36 rfl ?_
  refine evl ?_
  refine scs ?_
  refine ck e82 (hcl) rfl ?_
  refine sv26 ?_
  refine scs ?_
  refine Fin.nt results36 [] ?_ ?_ ?_ <;> try trivial
 | true =>
  obtain ⟨ht, hd, hw⟩ := handle_pos (live_iff hl).1
  cases hn : hasNodeM m.Heap (h % 32) with
  | false =>
   have hr : writableM m h = 2 := by simp [writableM, hl, hn]
   rw [hr]
   refine Ctr.bd mixed func36 rfl ?_
   refine evl ?_
   refine scs ?_
   refine ck e82 (hcl) rfl ?_
   refine sv27 ?_
   refine scs ?_
   refine ck e83 (hch (h % 32)) rfl ?_
   refine sv25 ?_
   refine scs ?_
   refine Fin.nt results36 [] ?_ ?_ ?_ <;> try trivial
  | true =>
   have hr : writableM m h = 0 := by simp [writableM, hl, hn]
   rw [hr]
   refine Ctr.bd mixed func36 rfl ?_
   refine evl ?_
   refine scs ?_
   refine ck e82 (hcl) rfl ?_
   refine sv27 ?_
   refine scs ?_
   refine ck e83 (hch (h % 32)) rfl ?_
   refine sv25 ?_
   refine scs ?_
   refine Fin.nt results36 [] ?_ ?_ ?_ <;> try trivial
theorem c53 (m : Mem) (hz : sizMem m <= 1048576) (head : Int) : Ctr prog 53 [.agg ((encMem m).map .dat), .one (.dat (.int .i64 head))] [] (.tup [.one (.own 0), .one (.dat (.bool (chainR m head).2))]) [.vec 1 true ((chainR m head).1.map encI)] := by
 have hmx : maxLen = 9223372036854775807 := rfl
 have hcm := c34 m hz
 have hcw := fun hs h => c36 m hz hs h
 have hcn := fun hs s hn => c56 m.Heap hs s hn
 simp only [encHeap, encNode, List.map_cons, List.map_nil] at hcn
 simp only [encMem, List.map_cons, List.map_nil] at hcm hcw ⊢
 cases hm : memOk m with
 | false =>
  have hr : chainR m head = ([], false) := by simp [chainR, hm]
  rw [hr]
  refine Ctr.bd mixed func53 rfl ?_
  refine evl ?_
  refine scs ?_
  refine ck e34 (hcm) rfl ?_
  refine sv45 ?_
  refine scs ?_
  refine Fin.nt results53 [1] ?_ ?_ ?_ <;> try trivial
  all_goals exact entd
 | true =>
  have hs := (memOk_heap hm).2.2
  have hr : chainR m head = (match chainGo m 25 head [] with
   | some l => (l, true)
   | none => ([], false)) := by simp [chainR, hm]
  refine Ctr.bd mixed func53 rfl ?_
  refine evl ?_
  refine scs ?_
  refine ck e34 (hcm) rfl ?_
  refine sv45 ?_
  refine scs ?_
  refine LoopK_intro (fun zn zs => ∃ (o : List Int) (h : Int), zn = 25 - o.length /\ (Good m o /\ chainGo m 25 head [] = chainGo m (25 - o.length) h o) /\ zs = mkSt [(2, .one (.ptr (.own 0 0 0))), (6, .one (.own 1)), (7, .one (.dat (.int .i64 h)))] [.box [.dat (.sl 1 (m.Heap.Bytes.map encI)), .dat (.sl 1 (m.Heap.Class.map encI)), .dat (.sl 1 (m.Lists.Global.map encSList)), .dat (.sl 1 (m.Lists.Own.map encSList))], .vec 1 true (o.map encI)]) _ _
   (Ent.wk [0, 1]) ⟨[], head, rfl, ⟨⟨List.nodup_nil, by simp⟩, rfl⟩, rfl⟩ ?_
  rintro zn zs ⟨o, h, rfl, hinv, rfl⟩ K hK
  obtain ⟨hg, hch⟩ := hinv
  have hle := good_len hg
  obtain ⟨f, hf⟩ : ∃ f, 25 - o.length = f + 1 := ⟨24 - o.length, by omega⟩
  rw [hf] at hch
  cases h0 : decide (h = 0) with
  | true =>
   have h0' := of_decide_eq_true h0
   subst h0'
   rw [chainGo_zero] at hch
   rw [hch] at hr
   have hb : ((0 : Int) != 0) = false := rfl
   refine sv28 ?_
   apply hK
   refine evl ?_
   rw [hr]
   refine Fin.nt results53 [1] ?_ ?_ ?_ <;> try trivial
   all_goals exact entd
  | false =>
   have h0' := of_decide_eq_false h0
   have hb : (h != 0) = true := by simpa using h0'
   have hcc := c55 o (by omega) h
   refine sv28 ?_
   refine scs ?_
   refine ck e36 (hcw hs h) rfl ?_
   refine evl ?_
   refine scs ?_
   refine ck e55 (hcc) rfl ?_
   refine evl ?_
   refine scs ?_
   constructor <;> intro hq
   ·rw [chainGo_bad h0' (step_a hq)] at hch
    rw [hch] at hr
    apply hK
    refine evl ?_
    rw [hr]
    refine Fin.ent (Ent.emp (t := 4) (sz := 1) rfl) ?_
    refine evl ?_
    refine Fin.nt results53 [2] ?_ ?_ ?_ <;> try trivial
    all_goals exact entd
   obtain ⟨hlv, hnd, hso⟩ := step_b hq
   obtain ⟨ht, _, _⟩ := handle_pos (live_iff hlv).1
   refine scs ?_
   refine sv40 ?_
   refine scs ?_
   refine ck e56 (hcn hs (h % 32) hnd) rfl ?_
   refine evl ?_
   refine scs ?_
   refine ck e48 (c48 _ _ _) rfl ?_
   refine evl ?_
   refine scs ?_
   constructor <;> intro hq2
   ·have hb2 : stepOk m h o = false := by rw [hso]; exact not_t hq2
    rw [chainGo_bad h0' hb2] at hch
    rw [hch] at hr
    apply hK
    refine evl ?_
    rw [hr]
    refine Fin.ent (Ent.emp (t := 4) (sz := 1) rfl) ?_
    refine evl ?_
    refine Fin.nt results53 [3] ?_ ?_ ?_ <;> try trivial
    all_goals exact entd
   ·have hb2 : stepOk m h o = true := by rw [hso]; exact not_f hq2
    rw [chainGo_step h0' hb2] at hch
    have hg2 := good_snoc hg hb2
    have hch2 : chainGo m 25 head [] = chainGo m (25 - (o ++ [h]).length) (nodeInM m.Heap (h % 32)).Next (o ++ [h]) := by
     rw [hch, List.length_append]; congr 1; simp; omega
    refine scs ?_
    have hdec : 25 - (o ++ [h]).length < 25 - o.length := by rw [List.length_append, List.length_singleton]; omega
    (apply hK
     exact ⟨_, _, by exact hdec, Ent.wk [0, 4], (o ++ [h]), (nodeInM m.Heap (h % 32)).Next, rfl, ⟨hg2, hch2⟩, rfl⟩)
theorem spot_live {m : Mem} {h : Int} (hl : isLiveM m h = true) : spotM m h = if hasNodeM m.Heap (h % 32) = true then (startM m.Heap (h % 32), 0) else (0, 2) := by
 obtain ⟨h1, h2, _⟩ := live_iff hl
 have := state3_class h2
 rw [spotM, if_pos ⟨h1, this⟩]
theorem c95 (m : Mem) (hz : sizMem m <= 1048576) (hm : memOk m = true) (head : Int) : Ctr prog 95 [.agg ((encMem m).map .dat), .one (.dat (.int .i64 head))] [] (.tup [.one (.own 0), .one (.dat (.bool (chainR m head).2))]) [.vec 1 true ((chainR m head).1.map encI)] := by
 have hmx : maxLen = 9223372036854775807 := rfl
 have hs := (memOk_heap hm).2.2
 have hcv := fun h => c28 m hz hs h
 have hcp := fun h => c29 m hs h
 have hcl := fun A h0 h1 => c96 m hs A h0 h1
 simp only [encNode, List.map_cons, List.map_nil] at hcl
 simp only [encMem, List.map_cons, List.map_nil] at hcv hcp hcl ⊢
 have hr : chainR m head = (match chainGo m 25 head [] with
  | some l => (l, true)
  | none => ([], false)) := by simp [chainR, hm]
 refine Ctr.bd mixed func95 rfl ?_
 refine evl ?_
 refine scs ?_
 refine LoopK_intro (fun zn zs => ∃ (o : List Int) (h : Int), zn = 25 - o.length /\ (Good m o /\ chainGo m 25 head [] = chainGo m (25 - o.length) h o) /\ zs = mkSt [(2, .one (.ptr (.own 0 0 0))), (6, .one (.own 1)), (7, .one (.dat (.int .i64 h)))] [.box [.dat (.sl 1 (m.Heap.Bytes.map encI)), .dat (.sl 1 (m.Heap.Class.map encI)), .dat (.sl 1 (m.Lists.Global.map encSList)), .dat (.sl 1 (m.Lists.Own.map encSList))], .vec 1 true (o.map encI)]) _ _
  (Ent.wk [0, 1]) ⟨[], head, rfl, ⟨⟨List.nodup_nil, by simp⟩, rfl⟩, rfl⟩ ?_
 rintro zn zs ⟨o, h, rfl, hinv, rfl⟩ K hK
 obtain ⟨hg, hch⟩ := hinv
 have hle := good_len hg
 obtain ⟨f, hf⟩ : ∃ f, 25 - o.length = f + 1 := ⟨24 - o.length, by omega⟩
 rw [hf] at hch
 cases h0 : decide (h = 0) with
 | true =>
  have h0' := of_decide_eq_true h0
  subst h0'
  rw [chainGo_zero] at hch
  rw [hch] at hr
  have hb : ((0 : Int) != 0) = false := rfl
  refine sv28 ?_
  apply hK
  refine evl ?_
  rw [hr]
  refine Fin.nt results95 [1] ?_ ?_ ?_ <;> try trivial
  all_goals exact entd
 | false =>
  have h0' := of_decide_eq_false h0
  have hb : (h != 0) = true := by simpa using h0'
  have hcc := c51 o (by omega) h
  refine sv28 ?_
  refine scs ?_
  refine ck e28 (hcv h) rfl ?_
  refine evl ?_
  refine scs ?_
  refine ck e51 (hcc) rfl ?_
  refine evl ?_
  refine scs ?_
  constructor <;> intro hq
  ·have hb2 : stepOk m h o = false := by
    simp only [stepOk]
    cases h1 : isLiveM m h with
    | false => rfl
    | true =>
     have hq : (o.any fun y => y == h) = true := by simpa [h1] using hq
     rw [hq]; simp
   rw [chainGo_bad h0' hb2] at hch
   rw [hch] at hr
   refine scs ?_
   apply hK
   refine evl ?_
   rw [hr]
   refine Fin.nt results95 [2] ?_ ?_ ?_ <;> try trivial
   all_goals exact entd
  have hlv : isLiveM m h = true := by
   cases h1 : isLiveM m h with
   | true => rfl
   | false => rw [h1] at hq; cases hq
  have hni : (o.any fun y => y == h) = false := by rw [hlv] at hq; exact hq
  have hsp := spot_live hlv
  cases hnd : hasNodeM m.Heap (h % 32) with
  | false =>
   have hsp2 : spotM m h = (0, 2) := by rw [hsp, hnd]; rfl
   have hb2 : stepOk m h o = false := by simp only [stepOk, hnd, Bool.and_false, Bool.false_and]
   have hcp' := hcp h
   rw [hsp2] at hcp'
   rw [chainGo_bad h0' hb2] at hch
   rw [hch] at hr
   refine scs ?_
   refine ck e29 (hcp') rfl ?_
   refine evl ?_
   refine scs ?_
   have hb0 : ((2 : Int) != 0) = true := rfl
   refine sv29 ?_
   refine scs ?_
   first | refine CCallK_of (.agg [.dat (.int .i64 0), .dat (.int .i64 0), .dat (.int .i64 0)]) ?_ | refine CCallK_og (.agg [.dat (.int .i64 0), .dat (.int .i64 0), .dat (.int .i64 0)]) ?_
   refine sv29 ?_
   refine scs ?_
   first | refine CCallK_of (.one (.dat (.bool false))) ?_ | refine CCallK_og (.one (.dat (.bool false))) ?_
   refine sv29 ?_
   refine scs ?_
   apply hK
   refine evl ?_
   rw [hr]
   refine Fin.nt results95 [2] ?_ ?_ ?_ <;> try trivial
   all_goals exact entd
  | true =>
   have hsp2 : spotM m h = (startM m.Heap (h % 32), 0) := by rw [hsp, hnd]; rfl
   have hb2 : stepOk m h o = nodeOkM (nodeOf m h) := by simp only [stepOk, hnd, hlv, hni]; rfl
   have hcp' := hcp h
   rw [hsp2] at hcp'
   obtain ⟨_, hA0, hA1, _⟩ := start_bound hs hnd
   have hb0 : ((0 : Int) != 0) = false := rfl
   have hcl' := hcl (startM m.Heap (h % 32)) hA0 hA1
   rw [show loadNode m.Heap.Bytes (startM m.Heap (h % 32)).toNat = nodeOf m h from rfl] at hcl'
   refine scs ?_
   refine ck e29 (hcp') rfl ?_
   refine sv29 ?_
   refine scs ?_
   refine ck e96 (hcl') rfl ?_
   refine sv29 ?_
   refine scs ?_
   refine ck e46 (c46 _ _ _) rfl ?_
   refine sv29 ?_
   constructor <;> intro hq2
   ·have hb3 : stepOk m h o = false := by rw [hb2]; exact not_t hq2
    rw [chainGo_bad h0' hb3] at hch
    rw [hch] at hr
    refine scs ?_
    apply hK
    refine evl ?_
    rw [hr]
    refine Fin.nt results95 [2] ?_ ?_ ?_ <;> try trivial
    all_goals exact entd
   ·have hb3 : stepOk m h o = true := by rw [hb2]; exact not_f hq2
    refine scs ?_
    refine ck e96 (hcl') rfl ?_
    refine evl ?_
    refine scs ?_
    rw [chainGo_step h0' hb3] at hch
    have hg2 := good_snoc hg hb3
    have hch2 : chainGo m 25 head [] = chainGo m (25 - (o ++ [h]).length) (nodeOf m h).Next (o ++ [h]) := by
     rw [hch, List.length_append]; congr 1; simp; omega
    have hdec : 25 - (o ++ [h]).length < 25 - o.length := by rw [List.length_append, List.length_singleton]; omega
    (apply hK
     exact ⟨_, _, by exact hdec, Ent.wk [0, 3], (o ++ [h]), (nodeOf m h).Next, rfl, ⟨hg2, hch2⟩, rfl⟩)
theorem c49 (m : Mem) (hz : sizMem m <= 1048576) (head : Int) : Ctr prog 49 [.agg ((encMem m).map .dat), .one (.dat (.int .i64 head))] [] (.tup [.one (.own 0), .one (.dat (.bool (chainR m head).2))]) [.vec 1 true ((chainR m head).1.map encI)] := by
 have hcm := c26 m hz
 have hcc := fun hm => c95 m hz hm head
 simp only [encMem, List.map_cons, List.map_nil] at hcm hcc ⊢
 cases hm : memOk m with
 | false =>
  have hr : chainR m head = ([], false) := by simp [chainR, hm]
  rw [hr]
  refine Ctr.bd mixed func49 rfl ?_
  refine evl ?_
  refine scs ?_
  refine ck e26 (hcm) rfl ?_
  refine sv45 ?_
  refine scs ?_
  refine Fin.nt results49 [1] ?_ ?_ ?_ <;> try trivial
  all_goals exact entd
 | true =>
  refine Ctr.bd mixed func49 rfl ?_
  refine evl ?_
  refine scs ?_
  refine ck e26 (hcm) rfl ?_
  refine sv45 ?_
  refine scs ?_
  refine ck e95 (hcc hm) rfl ?_
  refine evl ?_
  refine scs ?_
  refine Fin.nt results49 [1] ?_ ?_ ?_ <;> try trivial
  all_goals exact entd
def seekGo (m : Mem) (key : Int) : Int -> List Int -> Int × Int
 | _, [] => (0, 0)
 | b, h :: l => if (nodeOf m h).Key = key then (h, b) else seekGo m key h l
def seekM (m : Mem) (head key : Int) : Int × Int := seekGo m key 0 (chainR m head).1
theorem chain_mem {m : Mem} {head h : Int} (hm : h ∈ (chainR m head).1) : memOk m = true /\ isLiveM m h = true /\ hasNodeM m.Heap (h % 32) = true := by
 rcases chain_good m head with e | ⟨h1, h2⟩
 ·rw [e] at hm; cases hm
 ·exact ⟨h1, (h2.2 h hm).1, (h2.2 h hm).2.1⟩
theorem chain_len (m : Mem) (head : Int) : (chainR m head).1.length <= 24 := by
 rcases chain_good m head with e | ⟨_, h2⟩
 ·rw [e]; decide
 ·exact good_len h2
theorem c76 (h : Heap) (hz : sizHeap h <= 1048576) : Ctr prog 76 [.agg ((encHeap h).map .dat)] [] (.agg [.own 0, .own 1]) [.vec 1 true (h.Bytes.map encI), .vec 1 true (h.Class.map encI)] := by
 unfold sizHeap at hz
 simp only [encHeap, List.map_cons, List.map_nil]
 refine Ctr.bd mixed func76 rfl ?_
 refine evl ?_
 refine scs ?_
 refine ck e111 (c111 h.Bytes (by omega)) rfl ?_
 refine evl ?_
 refine scs ?_
 refine ck e111 (c111 h.Class (by omega)) rfl ?_
 refine evl ?_
 repeat ((with_reducible show _ = true /\ _); refine ⟨by kernel_rfl, ?_⟩)
 refine scs ?_
 refine Fin.nt results76 [2, 3] ?_ ?_ ?_ <;> try trivial
 all_goals exact entd
theorem c99 (l : List Int) (hl : l.length <= 1048576) : Ctr prog 99 [.one (.dat (.sl 1 (l.map encI)))] [] (.one (.own 0)) [.vec 1 true (l.map encI)] := by
 have hfl : ∀ r ∈ l.map encI, ∀ d ∈ r, d.flat = true := by
  intro r hr d hd
  obtain ⟨y, _, rfl⟩ := List.mem_map.1 hr
  simp only [encI, List.mem_cons, List.not_mem_nil, or_false] at hd
  subst hd; rfl
 refine Ctr.bd mixed func99 rfl ?_
 refine sv7 ?_
 refine scs ?_
 refine Fin.nt results99 [1] ?_ ?_ ?_ <;> try trivial
 all_goals exact entd
theorem c100 (l : List SList) (hl : l.length <= 1048576) (hq : ∀ x ∈ l, x.sok) : Ctr prog 100 [.one (.dat (.sl 1 (l.map encSList)))] [] (.one (.own 0)) [.vec 1 true (l.map encSList)] := by
 refine Ctr.bd mixed func100 rfl ?_
 refine evl ?_
 refine scs ?_
 refine LoopK_intro (fun zn zs => ∃ (i : Nat) (o : List SList), i <= l.length /\ zn = l.length - i /\ (l = o ++ l.drop i /\ o.length = i) /\ zs = mkSt [(4, .one (.dat (.int .i64 i))), (3, .one (.own 0)), (0, .one (.dat (.sl 1 (l.map encSList))))] [.vec 1 true (o.map encSList)]) (l.length) _
  (Ent.wk [0]) ⟨0, [], by omega, by omega, ⟨rfl, rfl⟩, rfl⟩ ?_
 rintro zn zs ⟨i, o, hi, rfl, hinv, rfl⟩ K hK
 rcases Nat.lt_or_ge i (l.length) with hlt | hge
 ·have hdi : decide ((i : Int) < ((l.length : Nat) : Int)) = true := decide_eq_true (by omega)
  have hw := wrap_succ hlt (show l.length <= maxLen by unfold maxLen; omega)
  obtain ⟨hin, hol⟩ := hinv
  obtain ⟨q0, _⟩ := hq l[i] (List.getElem_mem hlt)
  rw [List.drop_eq_getElem_cons hlt] at hin
  refine sv10 ?_
  refine scs ?_
  refine ck e99 (c99 l[i].Slots q0) rfl ?_
  refine sv10 ?_
  refine scs ?_
  (apply hK
   exact ⟨l.length - (i + 1), _, by omega, Ent.wk [3], i + 1, (o ++ [l[i]]), by omega, rfl, ⟨by rw [List.append_assoc]; exact hin, by simp [hol]⟩, rfl⟩)
 ·have hge' : l.length = i := by omega
  subst hge'
  have hdi : decide (((l.length : Nat) : Int) < ((l.length : Nat) : Int)) = false := by simp
  have hoe : l = o := by have := hinv.1; rw [List.drop_length, List.append_nil] at this; exact this
  clear hinv
  refine sv1 ?_
  apply hK
  refine evl ?_
  rw [hoe]
  refine Fin.nt results100 [0] ?_ ?_ ?_ <;> try trivial
  all_goals exact entd
theorem Ent_empBox {nf : Nat} {st : St} {o j sz : Nat} {cells : List Leaf} (eo : st.obj o = .box cells) (hj : cells[j]? = some .emp) : Ent nf st ((st.addObj (.vec sz true [])).setObj o (.box (cells.set j (.own st.next)))) := fun B N β φ a w hB h => by
 have hon : o < st.next := lt_next h (by rw [eo]; simp)
 have ho := h.objs o
 unfold ObjRel at ho
 rw [show (st.ctx w β φ).ob o = _ from eo] at ho
 obtain ⟨b, T, vs, e1, e2, e3, e4⟩ := ho
 obtain ⟨v, hv, ad, rfl⟩ := e4.2 j _ hj
 obtain ⟨β1, φ1, le1, sr1, hp⟩ := h.newVec0 (ks := []) (by simp) sz true ad
 have sr1 : SR B N (st.addObj (.vec sz true [])) β1 φ1 a w := sr1
 have le1 : (st.ctx w β φ).Le ((st.addObj (.vec sz true [])).ctx w β1 φ1) := le1
 have hp : AVRel ((st.addObj (.vec sz true [])).ctx w β1 φ1) (.one (.own st.next)) (.slice ad 0 0) := hp
 have eo1 : (st.addObj (.vec sz true [])).obj o = .box cells := by rw [St.obj_addObj_ne _ _ (by omega)]; exact eo
 have ho1 := sr1.objs o
 unfold ObjRel at ho1
 rw [show ((st.addObj (.vec sz true [])).ctx w β1 φ1).ob o = _ from eo1] at ho1
 obtain ⟨b', T', vs', f1, f2, f3, f4⟩ := ho1
 have hβ : β1 o = β o := (le1.obj o hon (by rw [show (st.ctx w β φ).ob o = _ from eo]; simp)).2 (by rw [show ((st.addObj (.vec sz true [])).ctx w β1 φ1).ob o = _ from eo1]; simp)
 have hbb : b' = b := by
  have f1' : (β1 o).base = some ⟨b', 0, none⟩ := f1
  have e1' : (β o).base = some ⟨b, 0, none⟩ := e1
  rw [hβ, e1'] at f1'
  cases f1'; rfl
 subst hbb
 have hvv : vs' = vs := by
  have e3' : w.heap[b']? = some (.cells vs T (0, 0)) := e3
  have f3' : w.heap[b']? = some (.cells vs' T' (0, 0)) := f3
  rw [e3'] at f3'
  cases f3'; rfl
 subst hvv
 let st2 := (st.addObj (.vec sz true [])).setObj o (.box (cells.set j (.own st.next)))
 have on2 : ∀ k, k ≠ o -> st2.obj k = (st.addObj (.vec sz true [])).obj k := fun k hk => St.obj_setObj_ne _ _ hk
 have ok2 : st2.obj o = .box (cells.set j (.own st.next)) := St.obj_setObj_same _ _ _
 obtain ⟨le2, sr2⟩ := sr1.change (st' := st2) (β' := β1) (φ' := φ1) (w' := w) (fun k => k = o) rfl (Nat.le_refl _) (fun k hk => on2 k hk) (fun _ _ => rfl) (fun _ _ => rfl)
  (fun k hk => by
    have hk' : st.next + 1 <= k := hk
    rw [on2 k (by omega)]
    exact sr1.dead k hk)
  (fun k hk hl => by
    subst hk
    rw [ok2, show (st.addObj (.vec sz true [])).obj k = _ from eo1]
    exact ⟨trivial, fun _ => rfl⟩)
  (Frm.refl w _)
  (fun le k hk => by
    subst hk
    unfold ObjRel
    rw [show (st2.ctx w β1 φ1).ob k = _ from ok2]
    refine ⟨b', T', vs', f1, f2, f3, by rw [List.length_set]; exact f4.1, fun i l hi => ?_⟩
    by_cases hij : j = i
    ·subst hij
     have hlt : j < cells.length := (List.getElem?_eq_some_iff.1 hj).1
     rw [List.getElem?_set_self hlt] at hi
     cases hi
     refine ⟨_, hv, ?_⟩
     exact AVRel.mono le (a := .one (.own st.next)) hp
    ·rw [List.getElem?_set_ne hij] at hi
     obtain ⟨u, hu, hr⟩ := f4.2 i l hi
     exact ⟨u, hu, AVRel.mono le (a := .one l) hr⟩)
  (fun k hk => sr1.nodup k)
  (fun k hk x hx => ⟨(sr1.fp k x hx).1, .inr ⟨k, hk, hx⟩⟩)
  (fun k k' hk hk' hne => absurd (hk.trans hk'.symm) hne)
 exact ⟨β1, φ1, sr2⟩
theorem c77 (x : Lists) (hx : x.sok) : Ctr prog 77 [.agg ((encLists x).map .dat)] [] (.agg [.own 0, .own 1]) [.vec 1 true (x.Global.map encSList), .vec 1 true (x.Own.map encSList)] := by
 obtain ⟨hl1, hq1, hl2, hq2, _⟩ := hx
 simp only [encLists, List.map_cons, List.map_nil]
 refine Ctr.bd mixed func77 rfl ?_
 refine evl ?_
 refine scs ?_
 refine LoopK_ent (Ent_empBox (o := 2) (j := 0) (sz := 1) rfl rfl) ?_
 refine LoopK_ent (Ent_empBox (o := 2) (j := 1) (sz := 1) rfl rfl) ?_
 refine evl ?_
 refine LoopK_intro (fun zn zs => ∃ (i : Nat) (o : List SList), i <= x.Global.length /\ zn = x.Global.length - i /\ (x.Global = o ++ x.Global.drop i /\ o.length = i) /\ zs = mkSt [(12, .one (.dat (.int .i64 i))), (11, .one (.dat (.int .i64 (x.Global.length)))), (10, .one (.dat (.sl 1 (x.Global.map encSList)))), (1, .one (.ptr (.own 0 0 0))), (2, .one (.ptr (.own 1 0 0))), (3, .one (.ptr (.own 2 0 0)))] [.box [.dat (.sl 1 (x.Global.map encSList)), .dat (.sl 1 (x.Own.map encSList))], .box [.emp, .emp], .box [.own 3, .own 4], .vec 1 true (o.map encSList), .vec 1 true []]) (x.Global.length) _
  (Ent.wk [0, 1, 2, 3, 4]) ⟨0, [], by omega, by omega, ⟨rfl, rfl⟩, rfl⟩ ?_
 rintro zn zs ⟨i, o, hi, rfl, hinv, rfl⟩ K hK
 rcases Nat.lt_or_ge i (x.Global.length) with hlt | hge
 ·have hdi : decide ((i : Int) < ((x.Global.length : Nat) : Int)) = true := decide_eq_true (by omega)
  have hw := wrap_succ hlt (show x.Global.length <= maxLen by unfold maxLen; omega)
  obtain ⟨hin, hol⟩ := hinv
  obtain ⟨q0, _⟩ := hq1 x.Global[i] (List.getElem_mem hlt)
  rw [List.drop_eq_getElem_cons hlt] at hin
  refine sv10 ?_
  refine scs ?_
  refine FloatR_intro [(0, []), (1, []), (2, []), (3, []), (4, [0, 1]), (5, []), (6, [0, 1]), (7, []), (8, []), (9, [])] (by kernel_rfl) ?_
  refine sv10 ?_
  refine scs ?_
  refine ck e111 (c111 x.Global[i].Slots (by omega)) rfl ?_
  refine sv10 ?_
  refine scs ?_
  (apply hK
   exact ⟨x.Global.length - (i + 1), _, by omega, Ent.wk [0, 1, 2, 8, 4], i + 1, (o ++ [x.Global[i]]), by omega, rfl, ⟨by rw [List.append_assoc]; exact hin, by simp [hol]⟩, rfl⟩)
 ·have hge' : x.Global.length = i := by omega
  subst hge'
  have hdi : decide (((x.Global.length : Nat) : Int) < ((x.Global.length : Nat) : Int)) = false := by simp
  have hoe : x.Global = o := by have := hinv.1; rw [List.drop_length, List.append_nil] at this; exact this
  clear hinv
  refine sv1 ?_
  apply hK
  refine evl ?_
  rw [<- hoe]
  refine LoopK_intro (fun zn zs => ∃ (k : Nat) (p : List SList), k <= x.Own.length /\ zn = x.Own.length - k /\ (x.Own = p ++ x.Own.drop k /\ p.length = k) /\ zs = mkSt [(29, .one (.dat (.int .i64 k))), (28, .one (.dat (.int .i64 (x.Own.length)))), (27, .one (.dat (.sl 1 (x.Own.map encSList)))), (1, .one (.ptr (.own 0 0 0))), (2, .one (.ptr (.own 1 0 0))), (3, .one (.ptr (.own 2 0 0)))] [.box [.dat (.sl 1 (x.Global.map encSList)), .dat (.sl 1 (x.Own.map encSList))], .box [.emp, .emp], .box [.own 3, .own 4], .vec 1 true (x.Global.map encSList), .vec 1 true (p.map encSList)]) (x.Own.length) _
   (Ent.wk [0, 1, 2, 3, 4]) ⟨0, [], by omega, by omega, ⟨rfl, rfl⟩, rfl⟩ ?_
  rintro zn zs ⟨k, p, hi2, rfl, hinv2, rfl⟩ K2 hK2
  rcases Nat.lt_or_ge k (x.Own.length) with hlt2 | hge2
  ·have hdi2 : decide ((k : Int) < ((x.Own.length : Nat) : Int)) = true := decide_eq_true (by omega)
   have hw2 := wrap_succ hlt2 (show x.Own.length <= maxLen by unfold maxLen; omega)
   obtain ⟨hin, hol⟩ := hinv2
   obtain ⟨q0, _⟩ := hq2 x.Own[k] (List.getElem_mem hlt2)
   rw [List.drop_eq_getElem_cons hlt2] at hin
   refine sv30 ?_
   refine scs ?_
   refine FloatR_intro [(0, []), (1, []), (2, []), (3, []), (4, [0, 1]), (5, []), (6, [0, 1]), (7, []), (8, []), (9, [])] (by kernel_rfl) ?_
   refine sv30 ?_
   refine scs ?_
   refine ck e111 (c111 x.Own[k].Slots (by omega)) rfl ?_
   refine sv30 ?_
   refine scs ?_
   (apply hK2
    exact ⟨x.Own.length - (k + 1), _, by omega, Ent.wk [0, 1, 2, 3, 8], k + 1, (p ++ [x.Own[k]]), by omega, rfl, ⟨by rw [List.append_assoc]; exact hin, by simp [hol]⟩, rfl⟩)
  ·have hge2' : x.Own.length = k := by omega
   subst hge2'
   have hdi2 : decide (((x.Own.length : Nat) : Int) < ((x.Own.length : Nat) : Int)) = false := by simp
   have hoe2 : x.Own = p := by have := hinv2.1; rw [List.drop_length, List.append_nil] at this; exact this
   clear hinv2
   refine sv17 ?_
   apply hK2
   refine evl ?_
   rw [<- hoe2]
   refine scs ?_
   refine Fin.nt results77 [3, 4] ?_ ?_ ?_ <;> try trivial
   all_goals exact entd
theorem c33 (x : Mem) (hz : sizHeap x.Heap <= 1048576) (hx : x.Lists.sok) : Ctr prog 33 [.agg ((encMem x).map .dat)] [] (.agg [.own 0, .own 1, .own 2, .own 3]) [.vec 1 true (x.Heap.Bytes.map encI), .vec 1 true (x.Heap.Class.map encI), .vec 1 true (x.Lists.Global.map encSList), .vec 1 true (x.Lists.Own.map encSList)] := by
 have hc1 := c76 x.Heap hz
 have hc2 := c77 x.Lists hx
 simp only [encMem, encHeap, encLists, List.map_cons, List.map_nil] at hc1 hc2 ⊢
 refine Ctr.bd mixed func33 rfl ?_
 refine evl ?_
 refine scs ?_
 refine ck e76 (hc1) rfl ?_
 refine evl ?_
 refine scs ?_
 refine ck e77 (hc2) rfl ?_
 refine evl ?_
 repeat ((with_reducible show _ = true /\ _); refine ⟨by kernel_rfl, ?_⟩)
 refine scs ?_
 refine Fin.nt results33 [2, 3, 4, 5] ?_ ?_ ?_ <;> try trivial
 all_goals exact entd
theorem c60 (h : Heap) (hz : sizHeap h <= 1048576) : Ctr prog 60 [.agg ((encHeap h).map .dat)] [] (.agg [.own 0, .own 1]) [.vec 1 true (h.Bytes.map encI), .vec 1 true (h.Class.map encI)] := by
 unfold sizHeap at hz
 simp only [encHeap, List.map_cons, List.map_nil]
 refine Ctr.bd mixed func60 rfl ?_
 refine evl ?_
 refine scs ?_
 refine ck e99 (c99 h.Bytes (by omega)) rfl ?_
 refine evl ?_
 refine scs ?_
 refine ck e99 (c99 h.Class (by omega)) rfl ?_
 refine evl ?_
 repeat ((with_reducible show _ = true /\ _); refine ⟨by kernel_rfl, ?_⟩)
 refine scs ?_
 refine Fin.nt results60 [2, 3] ?_ ?_ ?_ <;> try trivial
 all_goals exact entd
theorem c61 (x : Lists) (hx : x.sok) : Ctr prog 61 [.agg ((encLists x).map .dat)] [] (.agg [.own 0, .own 1]) [.vec 1 true (x.Global.map encSList), .vec 1 true (x.Own.map encSList)] := by
 obtain ⟨hl1, hq1, hl2, hq2, _⟩ := hx
 simp only [encLists, List.map_cons, List.map_nil]
 refine Ctr.bd mixed func61 rfl ?_
 refine evl ?_
 refine scs ?_
 refine ck e100 (c100 x.Global hl1 hq1) rfl ?_
 refine evl ?_
 refine scs ?_
 refine ck e100 (c100 x.Own hl2 hq2) rfl ?_
 refine evl ?_
 repeat ((with_reducible show _ = true /\ _); refine ⟨by kernel_rfl, ?_⟩)
 refine scs ?_
 refine Fin.nt results61 [2, 3] ?_ ?_ ?_ <;> try trivial
 all_goals exact entd
theorem c25 (x : Mem) (hz : sizHeap x.Heap <= 1048576) (hx : x.Lists.sok) : Ctr prog 25 [.agg ((encMem x).map .dat)] [] (.agg [.own 0, .own 1, .own 2, .own 3]) [.vec 1 true (x.Heap.Bytes.map encI), .vec 1 true (x.Heap.Class.map encI), .vec 1 true (x.Lists.Global.map encSList), .vec 1 true (x.Lists.Own.map encSList)] := by
 have hc1 := c60 x.Heap hz
 have hc2 := c61 x.Lists hx
 simp only [encMem, encHeap, encLists, List.map_cons, List.map_nil] at hc1 hc2 ⊢
 refine Ctr.bd mixed func25 rfl ?_
 refine evl ?_
 refine scs ?_
 refine ck e60 (hc1) rfl ?_
 refine evl ?_
 refine scs ?_
 refine ck e61 (hc2) rfl ?_
 refine evl ?_
 repeat ((with_reducible show _ = true /\ _); refine ⟨by kernel_rfl, ?_⟩)
 refine scs ?_
 refine Fin.nt results25 [2, 3, 4, 5] ?_ ?_ ?_ <;> try trivial
 all_goals exact entd
def setBytes (m : Mem) (b : List Int) : Mem := ⟨⟨b, m.Heap.Class⟩, m.Lists⟩
def nextToM (m : Mem) (h x : Int) : Mem × Int :=
 if (memOk m && isLink x) = true then
  if isLiveM m h = true then
   if hasNodeM m.Heap (h % 32) = true then (setBytes m (putL m.Heap.Bytes ((startM m.Heap (h % 32)).toNat + 6) (fixNs 4 x)), 0) else (m, 2)
  else (m, 4)
 else (m, 1)
def nodeNs (n : Node) : List Int := fixNs 2 n.Key ++ (fixNs 4 n.Val ++ fixNs 4 n.Next)
theorem nodeNs_len (n : Node) : (nodeNs n).length = 10 := by simp [nodeNs, fixNs_len]
def nodePutM (m : Mem) (h : Int) (n : Node) : Mem × Int :=
 if (memOk m && nodeOkM n) = true then
  if isLiveM m h = true then
   if hasNodeM m.Heap (h % 32) = true then (setBytes m (putL m.Heap.Bytes (startM m.Heap (h % 32)).toNat (nodeNs n)), 0) else (m, 2)
  else (m, 4)
 else (m, 1)
theorem setBytes_self (m : Mem) : setBytes m m.Heap.Bytes = m := rfl
theorem setBytes_siz {m : Mem} {b : List Int} (h : b.length = m.Heap.Bytes.length) : sizMem (setBytes m b) = sizMem m := by
 unfold sizMem sizHeap
 show b.length + m.Heap.Class.length + sizLists m.Lists = _
 rw [h]
theorem nextTo_bnd {m : Mem} {h x : Int} (hz : sizMem m <= 1048576) : sizMem (nextToM m h x).1 <= 1048576 /\ (nextToM m h x).1.sok := by
 have key : sizMem (nextToM m h x).1 = sizMem m := by
  unfold nextToM
  split
  ·split
   ·split
    ·exact setBytes_siz (putL_len ..)
    ·rfl
   ·rfl
  ·rfl
 exact ⟨by omega, Mem.sok_of (by omega)⟩
theorem nodePut_bnd {m : Mem} {h : Int} {x : Node} (hz : sizMem m <= 1048576) : sizMem (nodePutM m h x).1 <= 1048576 /\ (nodePutM m h x).1.sok := by
 have key : sizMem (nodePutM m h x).1 = sizMem m := by
  unfold nodePutM
  split
  ·split
   ·split
    ·exact setBytes_siz (putL_len ..)
    ·rfl
   ·rfl
  ·rfl
 exact ⟨by omega, Mem.sok_of (by omega)⟩
theorem mem_sok {m : Mem} (hz : sizMem m <= 1048576) : sizHeap m.Heap <= 1048576 /\ m.Lists.sok := by
 have := Mem.sok_of hz
 refine ⟨by unfold sizMem at hz; omega, this.2.1⟩
theorem link_num {x : Int} (h : isLink x = true) : 0 <= x /\ x <= 223 := by
 unfold isLink at h
 rcases Bool.or_eq_true _ _ ▸ h with h | h
 ·have : x = 0 := by simpa using h
  omega
 ·have := (handleOk_iff x).1 h
  omega
def bktB (b : Bkt) : Bool := bktOk b.Head b.Ver b.Lock
def linkInM (m : Mem) (b : Bkt) (h : Int) : Mem × Bkt × Bool :=
 if ((chainR m b.Head).2 && (bktB b && !((chainR m b.Head).1.any fun y => y == h))) = true then
  if ((nextToM m h b.Head).2 == 0 && nodeOkM (nodeOf (nextToM m h b.Head).1 h)) = true then ((nextToM m h b.Head).1, ⟨h, b.Ver, b.Lock⟩, true) else (m, b, false)
 else (m, b, false)
def unlinkM (m : Mem) (b : Bkt) (h : Int) : Mem × Bkt × Bool :=
 if ((chainR m b.Head).2 && (bktB b && ((chainR m b.Head).1.any fun y => y == h))) = true then
  if b.Head = h then (m, ⟨(nodeOf m h).Next, b.Ver, b.Lock⟩, true)
  else ((nextToM m ((chainR m b.Head).1.getD ((chainR m b.Head).1.findIdx (fun y => y == h) - 1) 0) (nodeOf m h).Next).1, b, true)
 else (m, b, false)
theorem linkIn_bnd {m : Mem} {b : Bkt} {h : Int} (hz : sizMem m <= 1048576) : sizMem (linkInM m b h).1 <= 1048576 /\ (linkInM m b h).1.sok := by
 unfold linkInM
 split
 ·split
  ·exact nextTo_bnd hz
  ·exact ⟨hz, Mem.sok_of hz⟩
 ·exact ⟨hz, Mem.sok_of hz⟩
theorem unlink_bnd {m : Mem} {b : Bkt} {h : Int} (hz : sizMem m <= 1048576) : sizMem (unlinkM m b h).1 <= 1048576 /\ (unlinkM m b h).1.sok := by
 unfold unlinkM
 split
 ·split
  ·exact ⟨hz, Mem.sok_of hz⟩
  ·exact nextTo_bnd hz
 ·exact ⟨hz, Mem.sok_of hz⟩
theorem putL_byte : ∀ (l b : List Int) (k : Nat), isByteL b -> (∀ x ∈ l, 0 <= x /\ x < 256) -> isByteL (putL b k l)
 | [], b, k, hb, _ => hb
 | x :: l, b, k, hb, hl => by
  rw [putL]
  refine putL_byte l _ _ (fun y hy => ?_) fun y hy => hl y (List.mem_cons_of_mem _ hy)
  rcases List.mem_or_eq_of_mem_set hy with h | h
  ·exact hb y h
  ·have := hl x (List.mem_cons_self ..)
   omega
theorem setBytes_shaped {m : Mem} {b : List Int} (hs : shapedM m.Heap = true) (hl : b.length = m.Heap.Bytes.length) (hb : isByteL b) : shapedM (setBytes m b).Heap = true := by
 obtain ⟨h1, _⟩ := shaped_iff hs
 have hby : bytesOk b = true := by
  rw [bytesOk, Bool.and_eq_true, List.all_eq_true]
  exact ⟨decide_eq_true (by omega), fun x hx => by have := hb x hx; rw [within, decide_eq_true_eq]; omega⟩
 unfold shapedM at hs ⊢
 simp only [Bool.and_eq_true] at hs ⊢
 refine ⟨⟨⟨?_, hby⟩, hs.1.2⟩, hs.2⟩
 show ((b.length : Int) == 384) = true
 rw [hl]; exact hs.1.1.1
theorem nextTo_zero {m : Mem} {h x : Int} (h0 : (nextToM m h x).2 = 0) : memOk m = true /\ isLiveM m h = true /\ hasNodeM m.Heap (h % 32) = true /\ shapedM (nextToM m h x).1.Heap = true /\ hasNodeM (nextToM m h x).1.Heap (h % 32) = true := by
 unfold nextToM at h0 ⊢
 split at h0
 ·rename_i hok
  rw [if_pos hok]
  simp only [Bool.and_eq_true] at hok
  split at h0
  ·rename_i hl
   rw [if_pos hl]
   split at h0
   ·rename_i hn
    rw [if_pos hn]
    obtain ⟨_, _, hsh⟩ := memOk_heap hok.1
    exact ⟨hok.1, hl, hn, setBytes_shaped hsh (putL_len ..) (putL_byte _ _ _ (shaped_iff hsh).2.1 (fixNs_in 4 x)), hn⟩
   ·cases h0
  ·cases h0
 ·cases h0
theorem any_has {l : List Int} {h : Int} : decide (h ∈ l) = l.any fun y => y == h := by
 rw [Bool.eq_iff_iff, decide_eq_true_eq, List.any_eq_true]
 exact ⟨fun hm => ⟨h, hm, by simp⟩, fun ⟨y, hy, he⟩ => by rw [<- eq_of_beq he]; exact hy⟩
theorem c52_e (m : Mem) (hs : shapedM m.Heap = true) (h : Int) (hh : handleOk h = true) (hn : hasNodeM m.Heap (h % 32) = true) : Ctr prog 52 [.agg ((encMem m).map .dat), .one (.dat (.int .i64 h))] [] (.agg ((encNode (nodeOf m h)).map .dat)) [] := by
 have hcp := c29 m hs h
 have hcl := fun A h0 h1 => c96 m hs A h0 h1
 obtain ⟨hc0, hA0, hA1, _⟩ := start_bound hs hn
 have hsp2 : spotM m h = (startM m.Heap (h % 32), 0) := by rw [spotM, if_pos ⟨hh, hc0⟩, if_pos hn]
 have hb0 : ((0 : Int) != 0) = false := rfl
 rw [hsp2] at hcp
 have hcl' := hcl (startM m.Heap (h % 32)) hA0 hA1
 rw [show loadNode m.Heap.Bytes (startM m.Heap (h % 32)).toNat = nodeOf m h from rfl] at hcl'
 simp only [encMem, encNode, List.map_cons, List.map_nil] at hcp hcl' ⊢
 refine Ctr.bd mixed func52 rfl ?_
 refine evl ?_
 refine scs ?_
 refine ck e29 (hcp) rfl ?_
 refine sv29 ?_
 refine scs ?_
 refine ck e96 (hcl') rfl ?_
 refine evl ?_
 refine scs ?_
 refine Fin.nt results52 [] ?_ ?_ ?_ <;> try trivial
theorem c86 (x : Int) : Ctr prog 86 [.one (.dat (.int .i64 x))] [] (.one (.dat (.bool (within x 1 7)))) [] := by
 refine Ctr.bd mixed func86 rfl ?_
 refine evl ?_
 refine scs ?_
 refine ck e94 (c94 ..) rfl ?_
 refine evl ?_
 refine scs ?_
 refine Fin.nt results86 [] ?_ ?_ ?_ <;> try trivial
theorem c39 (w : Nat) (hw : w = 2 \/ w = 4) (n : Int) (h0 : 0 <= n) (h1 : n < 256 ^ w) : Ctr prog 39 [.one (.dat (.int .i64 n)), .one (.dat (.int .i64 w))] [] (.one (.dat (.str (bytesOf (fixNs w n))))) [] := by
 have hmx : maxLen = 9223372036854775807 := rfl
 have hn0 : decide (n < 0) = false := decide_eq_false (by omega)
 have hlt : n < 4294967296 := by rcases hw with rfl | rfl <;> omega
 have hge : decide (((256 : Int) ^ w) <= n) = false := decide_eq_false (by omega)
 have hwd : within (w : Int) 1 7 = true := by rcases hw with rfl | rfl <;> rfl
 have hcw := c86 (w : Int)
 have hsh : shlD IntKind.i64 1 (IntKind.u64.wrap (IntKind.i64.wrap (8 * (w : Int)))) = 256 ^ w := by rcases hw with rfl | rfl <;> rfl
 have hwi : IntKind.i64.wrap ((w : Int) - 1) = (w : Int) - 1 := wrap_id (by omega) (by omega)
 refine Ctr.bd mixed func39 rfl ?_
 refine evl ?_
 refine scs ?_
 refine ck e86 (hcw) rfl ?_
 refine sv31 ?_
 refine scs ?_
 rw [byteRows_rep]
 refine LoopK_intro (fun zn zs => ∃ (j : Nat) (x : Int) (B : List Int), zn = 0 + j /\ (B.length = w /\ 0 <= x /\ x < 9223372036854775808 /\ j <= w /\ putL B 0 (fixNs j x) = fixNs w n) /\ zs = mkSt [(0, .one (.dat (.int .i64 x))), (1, .one (.dat (.int .i64 w))), (5, .one (.own 0)), (6, .one (.dat (.int .i64 ((j : Int) - 1))))] [.vec 1 true (byteRows B)]) _ _
  (Ent.wk [0]) ⟨w, n, List.replicate w 0, rfl, ⟨List.length_replicate .., h0, by omega, Nat.le_refl _, putL_all0 (by rw [fixNs_len, List.length_replicate])⟩, rfl⟩ ?_
 rintro zn zs ⟨j, x, B, rfl, hinv, rfl⟩ K hK
 obtain ⟨i1, i2, i3, i4, i5⟩ := hinv
 have hbl := byteRows_len B
 cases j with
 | zero =>
  have hd : decide ((0 : Int) <= ((0 : Nat) : Int) - 1) = false := rfl
  have hbn := byteNs_rows B
  refine sv32 ?_
  apply hK
  refine sv33 ?_
  rw [<- i5, fixNs, putL]
  refine Fin.nt results39 [] ?_ ?_ ?_ <;> try trivial
 | succ j =>
  have hd : decide ((0 : Int) <= ((j + 1 : Nat) : Int) - 1) = true := decide_eq_true (by omega)
  have hj0 : (((j + 1 : Nat) : Int) - 1).toNat = j := by omega
  have hj1 : IntKind.i64.wrap (((j + 1 : Nat) : Int) - 1 - 1) = (j : Int) - 1 := by rw [wrap_id (by omega) (by omega)]; omega
  have hu : IntKind.u8.wrap x = x % 256 := rfl
  have hs : shrD IntKind.i64 x 8 = x / 256 := by
   show x.fdiv 256 = x / 256
   rw [Int.fdiv_eq_ediv_of_nonneg _ (by decide)]
  have hst := byteRows_set B j (x % 256)
  refine sv34 ?_
  refine scs ?_
  have hput : putL (B.set j (x % 256)) 0 (fixNs j (x / 256)) = fixNs w n := by
   rw [<- i5, fixNs, putL_snoc, fixNs_len, putL_set _ _ _ _ _ (by rw [fixNs_len]; omega), Nat.zero_add]
  (apply hK
   exact ⟨_, _, by omega, Ent.wk [0], j, (x / 256), (B.set j (x % 256)), rfl, ⟨by rw [List.length_set]; exact i1, by omega, by omega, by omega, hput⟩, rfl⟩)
theorem c37 (b : List Int) (hb : b.length <= 1048576) (A : Int) (ns : List Int) (hn : ∀ x ∈ ns, 0 <= x /\ x < 256) (h0 : 0 <= A) (h1 : A + ns.length <= (b.length : Int)) : Ctr prog 37 [.one (.own 0), .one (.dat (.int .i64 A)), .one (.dat (.str (bytesOf ns)))] [.vec 1 true (b.map encI)] (.tup []) [.vec 1 true ((putL b A.toNat ns).map encI)] := by
 have hmx : maxLen = 9223372036854775807 := rfl
 have hsz := bytesOf_size ns
 refine Ctr.of_body mixed func37 rfl (by kernel_rfl) (Nat.le_of_ble_eq_true rfl) (by simp [AV.Clean, AV.Clean1, Leaf.Clean, D.flat]) (by simp [AObj.Sep]) (by simp) ?_ (by simp [AV.Low, AV.Low1, Leaf.Low]) ?_
 ·intro o ho
  have : o = 0 := by have : o < 1 := ho; omega
  subst this
  simp [Objs, Compat, putL_len]
 show wpA _ _ _ (FinQ _ _ _ _ _) _
 refine sv35 ?_
 refine LoopK_intro (fun zn zs => ∃ (i : Nat) (B : List Int), i <= ns.length /\ zn = ns.length - i /\ (B = putL b A.toNat (ns.take i)) /\ zs = mkSt [(9, .one (.dat (.int .i64 i))), (8, .one (.dat (.int .i64 (ns.length)))), (0, .one (.own 0)), (1, .one (.dat (.int .i64 A))), (2, .one (.dat (.str (bytesOf ns))))] [.vec 1 true (B.map encI)]) (ns.length) _
  (Ent.wk [0]) ⟨0, b, by omega, by omega, by simp [putL], rfl⟩ ?_
 rintro zn zs ⟨i, B, hi, rfl, hinv, rfl⟩ K hK
 rcases Nat.lt_or_ge i (ns.length) with hlt | hge
 ·have hdi : decide ((i : Int) < ((ns.length : Nat) : Int)) = true := decide_eq_true (by omega)
  have hw := wrap_succ hlt (show ns.length <= maxLen by omega)
  have hBl : B.length = b.length := by rw [hinv, putL_len]
  have hA : IntKind.i64.wrap (A + (i : Int)) = ((A.toNat + i : Nat) : Int) := by rw [wrap_id (by omega) (by omega)]; omega
  have hg := bytesOf_get hlt hn
  have hx := hn _ (List.getElem_mem hlt)
  have hwx : IntKind.i64.wrap ns[i] = ns[i] := wrap_id (by omega) (by omega)
  have hms : (B.map encI).set (A.toNat + i) [.int .i64 ns[i]] = (B.set (A.toNat + i) ns[i]).map encI := by rw [List.map_set]; rfl
  refine sv36 ?_
  refine scs ?_
  (apply hK
   exact ⟨ns.length - (i + 1), _, by omega, Ent.wk [0], i + 1, (B.set (A.toNat + i) ns[i]), by omega, rfl, by rw [hinv, List.take_succ_eq_append_getElem hlt, putL_snoc, List.length_take, Nat.min_eq_left (by omega)], rfl⟩)
 ·have hge' : ns.length = i := by omega
  subst hge'
  have hdi : decide (((ns.length : Nat) : Int) < ((ns.length : Nat) : Int)) = false := by simp
  rw [List.take_length] at hinv
  refine sv1 ?_
  apply hK
  refine evl ?_
  rw [hinv]
  refine Fin.nt results37 [0] ?_ ?_ ?_ <;> try trivial
  all_goals exact entd
theorem c30 (b : List Int) (hb : b.length <= 1048576) (A : Int) (w : Nat) (hw : w = 2 \/ w = 4) (n : Int) (hn : 0 <= n) (hn2 : n < 9223372036854775808) (h0 : 0 <= A) (h1 : A + w <= (b.length : Int)) : Ctr prog 30 [.one (.own 0), .one (.dat (.int .i64 A)), .one (.dat (.int .i64 w)), .one (.dat (.int .i64 n))] [.vec 1 true (b.map encI)] (.one (.own 0)) [.vec 1 true ((putL b A.toNat (fixNs w n)).map encI)] := by
 have hmx : maxLen = 9223372036854775807 := rfl
 have hwi : IntKind.i64.wrap ((w : Int) - 1) = (w : Int) - 1 := wrap_id (by omega) (by omega)
 refine Ctr.of_body mixed func30 rfl (by kernel_rfl) (Nat.le_of_ble_eq_true rfl) (by simp [AV.Clean, AV.Clean1, Leaf.Clean, D.flat]) (by simp [AObj.Sep]) (by simp) ?_ (by simp [AV.Low, AV.Low1, Leaf.Low]) ?_
 ·intro o ho
  have : o = 0 := by have : o < 1 := ho; omega
  subst this
  simp [Objs, Compat, putL_len]
 show wpA _ _ _ (FinQ _ _ _ _ _) _
 refine sv37 ?_
 refine scs ?_
 refine LoopK_intro (fun zn zs => ∃ (j : Nat) (x : Int) (B : List Int), zn = 0 + j /\ (B.length = b.length /\ 0 <= x /\ x < 9223372036854775808 /\ j <= w /\ putL B A.toNat (fixNs j x) = putL b A.toNat (fixNs w n)) /\ zs = mkSt [(0, .one (.own 0)), (1, .one (.dat (.int .i64 A))), (3, .one (.dat (.int .i64 x))), (9, .one (.dat (.int .i64 ((j : Int) - 1)))), (2, .one (.dat (.int .i64 w)))] [.vec 1 true (B.map encI)]) _ _
  (Ent.wk [0]) ⟨w, n, b, rfl, ⟨rfl, hn, hn2, Nat.le_refl _, rfl⟩, rfl⟩ ?_
 rintro zn zs ⟨j, x, B, rfl, hinv, rfl⟩ K hK
 obtain ⟨i1, i2, i3, i4, i5⟩ := hinv
 cases j with
 | zero =>
  have hd : decide ((0 : Int) <= ((0 : Nat) : Int) - 1) = false := rfl
  refine sv32 ?_
  apply hK
  refine evl ?_
  rw [<- i5, fixNs, putL]
  refine Fin.nt results30 [0] ?_ ?_ ?_ <;> try trivial
  all_goals exact entd
 | succ j =>
  have hd : decide ((0 : Int) <= ((j + 1 : Nat) : Int) - 1) = true := decide_eq_true (by omega)
  have hj1 : IntKind.i64.wrap (((j + 1 : Nat) : Int) - 1 - 1) = (j : Int) - 1 := by rw [wrap_id (by omega) (by omega)]; omega
  have hA : IntKind.i64.wrap (A + (((j + 1 : Nat) : Int) - 1)) = ((A.toNat + j : Nat) : Int) := by rw [wrap_id (by omega) (by omega)]; omega
  have hm : Int.tmod x 256 = x % 256 := Int.tmod_eq_emod_of_nonneg i2
  have hq : Int.tdiv x 256 = x / 256 := Int.tdiv_eq_ediv_of_nonneg i2
  have hwm : IntKind.i64.wrap (x % 256) = x % 256 := wrap_id (by omega) (by omega)
  have hwq : IntKind.i64.wrap (x / 256) = x / 256 := wrap_id (by omega) (by omega)
  have hms : (B.map encI).set (A.toNat + j) [.int .i64 (x % 256)] = (B.set (A.toNat + j) (x % 256)).map encI := by rw [List.map_set]; rfl
  refine sv38 ?_
  refine scs ?_
  have hput : putL (B.set (A.toNat + j) (x % 256)) A.toNat (fixNs j (x / 256)) = putL b A.toNat (fixNs w n) := by
   rw [<- i5, fixNs, putL_snoc, fixNs_len, putL_set _ _ _ _ _ (by rw [fixNs_len]; omega)]
  (apply hK
   exact ⟨_, _, by omega, Ent.wk [0], j, (x / 256), (B.set (A.toNat + j) (x % 256)), rfl, ⟨by rw [List.length_set]; exact i1, by omega, by omega, by omega, hput⟩, rfl⟩)
theorem c10 (m : Mem) (hz : sizMem m <= 1048576) (h x : Int) : Ctr prog 10 [.agg ((encMem m).map .dat), .one (.dat (.int .i64 h)), .one (.dat (.int .i64 x))] [] (.tup [.agg [.own 0, .own 1, .own 2, .own 3], .one (.dat (.int .i64 (nextToM m h x).2))])
  [.vec 1 true ((nextToM m h x).1.Heap.Bytes.map encI), .vec 1 true ((nextToM m h x).1.Heap.Class.map encI), .vec 1 true ((nextToM m h x).1.Lists.Global.map encSList), .vec 1 true ((nextToM m h x).1.Lists.Own.map encSList)] := by
 have hmx : maxLen = 9223372036854775807 := rfl
 obtain ⟨q1, q2⟩ := mem_sok hz
 have hcc := c33 m q1 q2
 have hcm := c34 m hz
 have hcw := fun hs => c36 m hz hs h
 have hcs := fun hs => c38 m.Heap hs (h % 32)
 simp only [encMem, encHeap, List.map_cons, List.map_nil] at hcc hcm hcw hcs ⊢
 refine Ctr.bd mixed func10 rfl ?_
 refine evl ?_
 refine scs ?_
 refine ck e33 (hcc) rfl ?_
 refine evl ?_
 refine scs ?_
 refine ck e34 (hcm) rfl ?_
 refine evl ?_
 refine scs ?_
 first | refine CCallK_intro e35 (fun hg => ⟨by first | exact trivial | exact hg | exact ⟨hg, hg⟩ | (simp; done) | (simp_all only [Bool.not_false, Bool.not_true, and_self]; done), c35 x⟩) rfl rfl ?_ | refine Or.inl (CCallK_intro e35 (fun hg => ⟨by first | exact trivial | exact hg | exact ⟨hg, hg⟩ | (simp; done) | (simp_all only [Bool.not_false, Bool.not_true, and_self]; done), c35 x⟩) rfl rfl ?_)
 refine evl ?_
 refine scs ?_
 constructor <;> intro hq
 ·have hok : (memOk m && isLink x) = false := by
   revert hq; cases memOk m <;> cases isLink x <;> simp
  have hr : nextToM m h x = (m, 1) := by rw [nextToM, hok]; rfl
  rw [hr]
  refine scs ?_
  refine Fin.nt results10 [2, 3, 4, 5] ?_ ?_ ?_ <;> try trivial
  all_goals exact entd
 have hok : memOk m = true /\ isLink x = true := by
  revert hq; cases memOk m <;> cases isLink x <;> simp
 obtain ⟨hme, hlx⟩ := hok
 obtain ⟨_, _, hsh⟩ := memOk_heap hme
 have hxn := link_num hlx
 have hn0 : nextToM m h x = if isLiveM m h = true then (if hasNodeM m.Heap (h % 32) = true then (setBytes m (putL m.Heap.Bytes ((startM m.Heap (h % 32)).toNat + 6) (fixNs 4 x)), 0) else (m, 2)) else (m, 4) := by rw [nextToM, hme, hlx]; rfl
 clear hq
 refine scs ?_
 refine ck e36 (hcw hsh) rfl ?_
 rcases hlv : isLiveM m h with _ | _
 ·have hr : nextToM m h x = (m, 4) := by rw [hn0, hlv]; rfl
  have hwr : writableM m h = 4 := by rw [writableM, if_pos hlv]
  have hb0 : ((4 : Int) == 0) = false := rfl
  rw [hr, hwr]
  refine sv29 ?_
  refine scs ?_
  refine Fin.nt results10 [2, 3, 4, 5] ?_ ?_ ?_ <;> try trivial
  all_goals exact entd
 obtain ⟨ht, _, _⟩ := handle_pos (live_iff hlv).1
 rcases hnd : hasNodeM m.Heap (h % 32) with _ | _
 ·have hr : nextToM m h x = (m, 2) := by rw [hn0, hlv, hnd]; rfl
  have hwr : writableM m h = 2 := by rw [writableM, if_neg (by rw [hlv]; simp), if_pos hnd]
  have hb0 : ((2 : Int) == 0) = false := rfl
  rw [hr, hwr]
  refine sv29 ?_
  refine scs ?_
  refine Fin.nt results10 [2, 3, 4, 5] ?_ ?_ ?_ <;> try trivial
  all_goals exact entd
 have hr : nextToM m h x = (setBytes m (putL m.Heap.Bytes ((startM m.Heap (h % 32)).toNat + 6) (fixNs 4 x)), 0) := by rw [hn0, hlv, hnd]; rfl
 have hwr : writableM m h = 0 := by rw [writableM, if_neg (by rw [hlv]; simp), if_neg (by rw [hnd]; simp)]
 obtain ⟨hb1, hb2, hb3, hb4⟩ := start_bound hsh hnd
 obtain ⟨hbl, _⟩ := shaped_iff hsh
 have hw6 : IntKind.i64.wrap (startM m.Heap (h % 32) + 6) = startM m.Heap (h % 32) + 6 := wrap_id (by omega) (by omega)
 have hb0 : ((0 : Int) == 0) = true := rfl
 rw [hr, hwr]
 simp only [setBytes]
 refine sv39 ?_
 refine FloatR_intro [(0, []), (1, []), (2, []), (3, []), (4, []), (5, []), (6, []), (9, []), (7, [0, 1, 2, 9]), (8, []), (10, [0, 1, 2, 8]), (11, [])] (by kernel_rfl) ?_
 refine sv40 ?_
 refine scs ?_
 refine ck e38 (hcs hsh) rfl ?_
 refine sv46 ?_
 refine scs ?_
 refine ck e39 (c39 4 (.inr rfl) x (by omega) (by omega)) rfl ?_
 refine sv46 ?_
 refine scs ?_
 have hcp := c37 m.Heap.Bytes (by omega) (startM m.Heap (h % 32) + 6) (fixNs 4 x) (fixNs_in 4 x) (by omega) (by rw [fixNs_len]; omega)
 rw [show (startM m.Heap (h % 32) + 6).toNat = (startM m.Heap (h % 32)).toNat + 6 by omega] at hcp
 refine CallK_os [2] e37 (by simp [osOk, St.obj, find]) hcp rfl ?_
 refine evl ?_
 refine scs ?_
 refine Fin.nt results10 [2, 3, 4, 5] ?_ ?_ ?_ <;> try trivial
 all_goals exact entd
theorem c8 (m : Mem) (hz : sizMem m <= 1048576) (h x : Int) : Ctr prog 8 [.agg ((encMem m).map .dat), .one (.dat (.int .i64 h)), .one (.dat (.int .i64 x))] [] (.tup [.agg [.own 0, .own 1, .own 2, .own 3], .one (.dat (.int .i64 (nextToM m h x).2))])
  [.vec 1 true ((nextToM m h x).1.Heap.Bytes.map encI), .vec 1 true ((nextToM m h x).1.Heap.Class.map encI), .vec 1 true ((nextToM m h x).1.Lists.Global.map encSList), .vec 1 true ((nextToM m h x).1.Lists.Own.map encSList)] := by
 have hmx : maxLen = 9223372036854775807 := rfl
 obtain ⟨q1, q2⟩ := mem_sok hz
 have hcc := c25 m q1 q2
 have hcm := c26 m hz
 have hcv := fun hs => c28 m hz hs h
 have hcp := fun hs => c29 m hs h
 simp only [encMem, List.map_cons, List.map_nil] at hcc hcm hcv hcp ⊢
 refine Ctr.bd mixed func8 rfl ?_
 refine evl ?_
 refine scs ?_
 refine ck e25 (hcc) rfl ?_
 refine evl ?_
 refine scs ?_
 refine ck e26 (hcm) rfl ?_
 refine evl ?_
 refine scs ?_
 first | refine CCallK_intro e27 (fun hg => ⟨by first | exact trivial | exact hg | exact ⟨hg, hg⟩ | (simp; done) | (simp_all only [Bool.not_false, Bool.not_true, and_self]; done), c27 x⟩) rfl rfl ?_ | refine Or.inl (CCallK_intro e27 (fun hg => ⟨by first | exact trivial | exact hg | exact ⟨hg, hg⟩ | (simp; done) | (simp_all only [Bool.not_false, Bool.not_true, and_self]; done), c27 x⟩) rfl rfl ?_)
 refine evl ?_
 refine scs ?_
 constructor <;> intro hq
 ·have hok : (memOk m && isLink x) = false := by
   revert hq; cases memOk m <;> cases isLink x <;> simp
  have hr : nextToM m h x = (m, 1) := by rw [nextToM, hok]; rfl
  rw [hr]
  refine scs ?_
  refine Fin.nt results8 [2, 3, 4, 5] ?_ ?_ ?_ <;> try trivial
  all_goals exact entd
 have hok : memOk m = true /\ isLink x = true := by
  revert hq; cases memOk m <;> cases isLink x <;> simp
 obtain ⟨hme, hlx⟩ := hok
 obtain ⟨_, _, hsh⟩ := memOk_heap hme
 have hxn := link_num hlx
 have hn0 : nextToM m h x = if isLiveM m h = true then (if hasNodeM m.Heap (h % 32) = true then (setBytes m (putL m.Heap.Bytes ((startM m.Heap (h % 32)).toNat + 6) (fixNs 4 x)), 0) else (m, 2)) else (m, 4) := by rw [nextToM, hme, hlx]; rfl
 clear hq
 refine scs ?_
 refine ck e28 (hcv hsh) rfl ?_
 rcases hlv : isLiveM m h with _ | _
 ·have hr : nextToM m h x = (m, 4) := by rw [hn0, hlv]; rfl
  rw [hr]
  refine sv41 ?_
  refine scs ?_
  refine Fin.nt results8 [2, 3, 4, 5] ?_ ?_ ?_ <;> try trivial
  all_goals exact entd
 have hsp := spot_live hlv
 refine sv41 ?_
 refine scs ?_
 rcases hnd : hasNodeM m.Heap (h % 32) with _ | _
 ·have hr : nextToM m h x = (m, 2) := by rw [hn0, hlv, hnd]; rfl
  rw [hnd, if_neg (by simp)] at hsp
  rw [hsp] at hcp
  have hb0 : ((2 : Int) != 0) = true := rfl
  rw [hr]
  refine ck e29 (hcp hsh) rfl ?_
  refine sv29 ?_
  refine scs ?_
  refine Fin.nt results8 [2, 3, 4, 5] ?_ ?_ ?_ <;> try trivial
  all_goals exact entd
 have hr : nextToM m h x = (setBytes m (putL m.Heap.Bytes ((startM m.Heap (h % 32)).toNat + 6) (fixNs 4 x)), 0) := by rw [hn0, hlv, hnd]; rfl
 rw [hnd, if_pos rfl] at hsp
 rw [hsp] at hcp
 have hb0 : ((0 : Int) != 0) = false := rfl
 obtain ⟨hb1, hb2, hb3, hb4⟩ := start_bound hsh hnd
 obtain ⟨hbl, _⟩ := shaped_iff hsh
 have hw6 : IntKind.i64.wrap (startM m.Heap (h % 32) + 6) = startM m.Heap (h % 32) + 6 := wrap_id (by omega) (by omega)
 have hcs := c30 m.Heap.Bytes (by omega) (startM m.Heap (h % 32) + 6) 4 (.inr rfl) x (by omega) (by omega) (by omega) (by omega)
 rw [show (startM m.Heap (h % 32) + 6).toNat = (startM m.Heap (h % 32)).toNat + 6 by omega] at hcs
 rw [hr]
 simp only [setBytes]
 refine ck e29 (hcp hsh) rfl ?_
 simp (maxSteps := 2000000) only [go_sem, seval, hb0, hw6]
 refine scs ?_
 refine CallK_os [2] e30 (by simp [osOk, St.obj, find]) hcs rfl ?_
 refine evl ?_
 refine scs ?_
 refine Fin.nt results8 [2, 3, 4, 5] ?_ ?_ ?_ <;> try trivial
 all_goals exact entd
theorem chain_first {m : Mem} {head : Int} (h : (chainR m head).2 = true) : memOk m = true /\ chainGo m 25 head [] = some (chainR m head).1 := by
 unfold chainR at h ⊢
 split at h
 ·rename_i hm
  rw [if_pos hm]
  split at h
  ·rename_i l hl
   exact ⟨hm, by rw [hl]⟩
  ·cases h
 ·cases h
theorem chainGo_pre {m : Mem} : ∀ (f : Nat) (h : Int) (o l : List Int), chainGo m f h o = some l -> ∃ r, l = o ++ r /\ (h ≠ 0 -> ∃ r', r = h :: r')
 | f, h, o, l, e => by
  by_cases h0 : h = 0
  ·subst h0
   rw [chainGo_zero] at e
   cases e
   exact ⟨[], by simp, fun hn => absurd rfl hn⟩
  ·cases f with
   | zero =>
    unfold chainGo at e
    rw [if_neg h0] at e
    cases e
   | succ f =>
    cases hb : stepOk m h o with
    | false =>
     rw [chainGo_bad h0 hb] at e
     cases e
    | true =>
     rw [chainGo_step h0 hb] at e
     obtain ⟨r, hr, _⟩ := chainGo_pre f _ _ _ e
     exact ⟨h :: r, by rw [hr, List.append_assoc]; rfl, fun _ => ⟨r, rfl⟩⟩
theorem chain_head {m : Mem} {head h : Int} (hc : (chainR m head).2 = true) (hm : h ∈ (chainR m head).1) : ∃ r, (chainR m head).1 = head :: r := by
 obtain ⟨_, hg⟩ := chain_first hc
 obtain ⟨r, hr, hn⟩ := chainGo_pre 25 head [] _ hg
 rw [List.nil_append] at hr
 by_cases h0 : head = 0
 ·exfalso
  rw [h0, chainGo_zero] at hg
  have : (chainR m head).1 = [] := by rw [h0]; exact (Option.some.inj hg).symm
  rw [this] at hm
  cases hm
 ·obtain ⟨r', hr'⟩ := hn h0
  exact ⟨r', hr.trans hr'⟩
theorem findIdx_at {l : List Int} {h : Int} {i : Nat} (hi : i < l.length) (he : l[i] = h) (hb : ∀ j (hj : j < l.length), j < i -> (l[j] == h) = false) : l.findIdx (fun y => y == h) = i := by
 rw [List.findIdx_eq hi]
 exact ⟨by simp [he], fun j hj => by simpa using hb j (by omega) hj⟩
theorem c22 (m : Mem) (hz : sizMem m <= 1048576) (b : Bkt) (h : Int) : Ctr prog 22 [.agg ((encMem m).map .dat), .agg ((encBkt b).map .dat), .one (.dat (.int .i64 h))] [] (.tup [.agg [.own 0, .own 1, .own 2, .own 3], .agg ((encBkt (unlinkM m b h).2.1).map .dat), .one (.dat (.bool (unlinkM m b h).2.2))])
  [.vec 1 true ((unlinkM m b h).1.Heap.Bytes.map encI), .vec 1 true ((unlinkM m b h).1.Heap.Class.map encI), .vec 1 true ((unlinkM m b h).1.Lists.Global.map encSList), .vec 1 true ((unlinkM m b h).1.Lists.Own.map encSList)] := by
 have hmx : maxLen = 9223372036854775807 := rfl
 obtain ⟨q1, q2⟩ := mem_sok hz
 have hcl := chain_len m b.Head
 have hcc := c33 m q1 q2
 have hch := c53 m hz b.Head
 have hcn := fun x y => c10 m hz x y
 have hmem := fun hm => chain_mem (m := m) (head := b.Head) (h := h) hm
 have hhd := chain_head (m := m) (head := b.Head) (h := h)
 have hci := fun hs hn => c56 m.Heap hs (h % 32) hn
 simp only [encMem, encHeap, encNode, encBkt, List.map_cons, List.map_nil] at hcc hch hcn hci ⊢
 obtain ⟨C, hC⟩ : ∃ C, chainR m b.Head = C := ⟨_, rfl⟩
 have hlk : unlinkM m b h = if (C.2 && (bktB b && (C.1.any fun y => y == h))) = true then (if b.Head = h then (m, ⟨(nodeOf m h).Next, b.Ver, b.Lock⟩, true) else ((nextToM m (C.1.getD (C.1.findIdx (fun y => y == h) - 1) 0) (nodeOf m h).Next).1, b, true)) else (m, b, false) := by rw [unlinkM, hC]
 rw [hC] at hch hcl hmem hhd
 have hkb : bktB b = bktOk b.Head b.Ver b.Lock := rfl
 refine Ctr.bd mixed func22 rfl ?_
 refine evl ?_
 refine scs ?_
 refine ck e53 (hch) rfl ?_
 refine sv7 ?_
 refine scs ?_
 refine ck e57 (c57 C.1 (by omega) h) rfl ?_
 refine sv7 ?_
 refine scs ?_
 first | refine CCallK_intro e54 (fun hg => ⟨by first | exact trivial | exact hg | exact ⟨hg, hg⟩ | (simp; done) | (simp_all only [Bool.not_false, Bool.not_true, and_self]; done), c54 b.Head b.Ver b.Lock⟩) rfl rfl ?_ | refine Or.inl (CCallK_intro e54 (fun hg => ⟨by first | exact trivial | exact hg | exact ⟨hg, hg⟩ | (simp; done) | (simp_all only [Bool.not_false, Bool.not_true, and_self]; done), c54 b.Head b.Ver b.Lock⟩) rfl rfl ?_)
 refine sv7 ?_
 refine scs ?_
 obtain ⟨k, hk⟩ : ∃ k, k = ixF (fun x => x == h) C.1 := ⟨_, rfl⟩
 have hix := ixF_cases (fun x => x == h) C.1
 rw [<- hk] at hix ⊢
 have hany : (C.1.any fun y => y == h) = !decide (k < 0) := by
  rcases hix with ⟨e, hno⟩ | ⟨i, hi, e, hp, _⟩
  ·rw [e, show decide ((-1 : Int) < 0) = true from rfl, Bool.not_true, Bool.eq_false_iff]
   intro ha
   obtain ⟨y, hy, hye⟩ := List.any_eq_true.1 ha
   obtain ⟨j, hj, rfl⟩ := List.getElem_of_mem hy
   rw [hno j hj] at hye
   cases hye
  ·rw [e, decide_eq_false (by omega), Bool.not_false, List.any_eq_true]
   exact ⟨C.1[i], List.getElem_mem hi, hp⟩
 constructor <;> intro hq
 ·have hr : unlinkM m b h = (m, b, false) := by
   rw [hlk, if_neg]
   rw [hkb, hany]
   revert hq
   cases C.2 <;> cases bktOk b.Head b.Ver b.Lock <;> cases decide (k < 0) <;> simp
  rw [hr]
  refine scs ?_
  refine FloatR_intro [(0, []), (2, []), (1, [2]), (3, [2]), (4, []), (5, [])] (by kernel_rfl) ?_
  refine sv7 ?_
  refine scs ?_
  refine ck e33 (hcc) rfl ?_
  refine sv7 ?_
  refine scs ?_
  refine Fin.nt results22 [5, 6, 7, 8] ?_ ?_ ?_ <;> try trivial
  all_goals exact entd
 have hok : C.2 = true /\ (bktB b = true /\ (C.1.any fun y => y == h) = true) := by
  rw [hkb, hany]
  revert hq
  cases C.2 <;> cases bktOk b.Head b.Ver b.Lock <;> cases decide (k < 0) <;> simp
 clear hq
 obtain ⟨hc2, hb2, ha2⟩ := hok
 rw [if_pos (by rw [hc2, hb2, ha2]; rfl)] at hlk
 have hin : h ∈ C.1 := by
  obtain ⟨y, hy, hye⟩ := List.any_eq_true.1 ha2
  rw [<- eq_of_beq hye]; exact hy
 obtain ⟨hme, hlv, hnd⟩ := hmem hin
 obtain ⟨_, _, hsh⟩ := memOk_heap hme
 obtain ⟨ht, _, _⟩ := handle_pos (live_iff hlv).1
 obtain ⟨i, hi, hki, hp, hbef⟩ : ∃ i, ∃ hi : i < C.1.length, k = (i : Int) /\ (C.1[i] == h) = true /\ ∀ j (hj : j < C.1.length), j < i -> (C.1[j] == h) = false := by
  rcases hix with ⟨e, hno⟩ | ⟨i, hi, e, hp, hb⟩
  ·rw [hany, e] at ha2; cases ha2
  ·exact ⟨i, hi, e, hp, hb⟩
 rw [hki]
 have hfi := findIdx_at hi (eq_of_beq hp) hbef
 obtain ⟨r, hr0⟩ := hhd (by first | exact hc2 | (rw [hC]; exact hc2)) (by first | exact hin | (rw [hC]; exact hin))
 try rw [hC] at hr0
 have hg0 : ∀ (hj : 0 < C.1.length), C.1[0] = b.Head := fun hj => by
  have h1 : C.1[0]? = some b.Head := by rw [hr0]; rfl
  rw [List.getElem?_eq_getElem hj] at h1
  exact Option.some.inj h1
 obtain ⟨nd, hndd⟩ : ∃ nd, nodeOf m h = nd := ⟨_, rfl⟩
 have hci2 := hci hsh hnd
 rw [show nodeInM m.Heap (h % 32) = nodeOf m h from rfl] at hci2
 rw [hndd] at hci2 hlk
 refine sv40 ?_
 refine scs ?_
 refine ck e56 (hci2) rfl ?_
 refine sv40 ?_
 refine scs ?_
 constructor <;> intro hq
 ·have hi0 : i = 0 := by have := eq_of_beq hq; omega
  subst hi0
  have hbh : b.Head = h := by
   have := eq_of_beq hp
   rw [<- this, hg0]
  have hr : unlinkM m b h = (m, ⟨nd.Next, b.Ver, b.Lock⟩, true) := by rw [hlk, if_pos hbh]
  rw [hr]
  refine scs ?_
  refine FloatR_intro [(0, []), (2, []), (1, [2]), (3, [2]), (4, []), (5, [])] (by kernel_rfl) ?_
  refine sv7 ?_
  refine scs ?_
  refine ck e33 (hcc) rfl ?_
  refine sv7 ?_
  refine scs ?_
  refine Fin.nt results22 [5, 6, 7, 8] ?_ ?_ ?_ <;> try trivial
  all_goals exact entd
 have hi0 : 0 < i := by
  rcases Nat.eq_zero_or_pos i with h0 | h0
  ·exfalso; rw [h0] at hq; cases hq
  ·exact h0
 have hbh : ¬ b.Head = h := fun e => by
  have h0 := hbef 0 (by omega) hi0
  rw [hg0 (by omega), e] at h0
  simp at h0
 have hwi : IntKind.i64.wrap ((i : Int) - 1) = ((i - 1 : Nat) : Int) := by rw [wrap_id (by omega) (by omega)]; omega
 have hgi : i - 1 < C.1.length := by omega
 have hr : unlinkM m b h = ((nextToM m (C.1[i - 1]) nd.Next).1, b, true) := by
  rw [hlk, if_neg hbh, hfi, List.getD_eq_getElem?_getD, List.getElem?_eq_getElem hgi]; rfl
 rw [hr]
 refine scs ?_
 refine FloatE_intro [(0, []), (1, []), (2, []), (3, []), (4, []), (5, []), (6, []), (7, []), (8, []), (9, []), (10, []), (11, [0, 1, 2, 3, 4, 5, 6, 8, 9, 10]), (12, [10]), (13, [])] [11] (by kernel_rfl) ?_
 simp (maxSteps := 2000000) only [go_sem, seval, hwi, getD_map hgi, encI]
 refine scs ?_
 repeat with_reducible intro ff
 refine ⟨⟨⟨by omega, fun d hd => by rw [List.mem_singleton.1 hd]; rfl⟩, by omega, by omega⟩, ?_⟩
 refine ck e10 (hcn C.1[i - 1] nd.Next) rfl ?_
 simp (maxSteps := 2000000) only [go_sem, seval, hwi, getD_map hgi, encI]
 refine scs ?_
 repeat with_reducible intro ff
 refine ⟨⟨⟨by omega, fun d hd => by rw [List.mem_singleton.1 hd]; rfl⟩, by omega, by omega⟩, ⟨⟨by omega, by omega⟩, by omega, fun d hd => by rw [List.mem_singleton.1 hd]; rfl⟩, ?_⟩
 refine FloatR_intro [(0, []), (1, []), (2, [1]), (3, []), (4, [])] (by kernel_rfl) ?_
 refine sv7 ?_
 refine scs ?_
 refine Fin.nt results22 [6, 7, 8, 9] ?_ ?_ ?_ <;> try trivial
 all_goals exact entd
theorem c21 (m : Mem) (hz : sizMem m <= 1048576) (b : Bkt) (h : Int) : Ctr prog 21 [.agg ((encMem m).map .dat), .agg ((encBkt b).map .dat), .one (.dat (.int .i64 h))] [] (.tup [.agg [.own 0, .own 1, .own 2, .own 3], .agg ((encBkt (unlinkM m b h).2.1).map .dat), .one (.dat (.bool (unlinkM m b h).2.2))])
  [.vec 1 true ((unlinkM m b h).1.Heap.Bytes.map encI), .vec 1 true ((unlinkM m b h).1.Heap.Class.map encI), .vec 1 true ((unlinkM m b h).1.Lists.Global.map encSList), .vec 1 true ((unlinkM m b h).1.Lists.Own.map encSList)] := by
 have hmx : maxLen = 9223372036854775807 := rfl
 obtain ⟨q1, q2⟩ := mem_sok hz
 have hcl := chain_len m b.Head
 have hcc := c25 m q1 q2
 have hch := c49 m hz b.Head
 have hcn := fun x y => c8 m hz x y
 have hmem := fun hm => chain_mem (m := m) (head := b.Head) (h := h) hm
 have hhd := chain_head (m := m) (head := b.Head) (h := h)
 have hci := fun hs hh hn => c52_e m hs h hh hn
 simp only [encMem, encNode, encBkt, List.map_cons, List.map_nil] at hcc hch hcn hci ⊢
 obtain ⟨C, hC⟩ : ∃ C, chainR m b.Head = C := ⟨_, rfl⟩
 have hlk : unlinkM m b h = if (C.2 && (bktB b && (C.1.any fun y => y == h))) = true then (if b.Head = h then (m, ⟨(nodeOf m h).Next, b.Ver, b.Lock⟩, true) else ((nextToM m (C.1.getD (C.1.findIdx (fun y => y == h) - 1) 0) (nodeOf m h).Next).1, b, true)) else (m, b, false) := by rw [unlinkM, hC]
 rw [hC] at hch hcl hmem hhd
 have hkb : bktB b = bktOk b.Head b.Ver b.Lock := rfl
 refine Ctr.bd mixed func21 rfl ?_
 refine evl ?_
 refine scs ?_
 refine ck e49 (hch) rfl ?_
 refine sv7 ?_
 refine scs ?_
 refine ck e25 (hcc) rfl ?_
 refine sv7 ?_
 refine scs ?_
 first | refine CCallK_intro e50 (fun hg => ⟨by first | exact trivial | exact hg | exact ⟨hg, hg⟩ | (simp; done) | (simp_all only [Bool.not_false, Bool.not_true, and_self]; done), c50 b.Head b.Ver b.Lock⟩) rfl rfl ?_ | refine Or.inl (CCallK_intro e50 (fun hg => ⟨by first | exact trivial | exact hg | exact ⟨hg, hg⟩ | (simp; done) | (simp_all only [Bool.not_false, Bool.not_true, and_self]; done), c50 b.Head b.Ver b.Lock⟩) rfl rfl ?_)
 refine sv7 ?_
 refine scs ?_
 first | refine CCallK_intro e51 (fun hg => ⟨by first | exact trivial | exact hg | exact ⟨hg, hg⟩ | (simp; done) | (simp_all only [Bool.not_false, Bool.not_true, and_self]; done), c51 C.1 (by omega) h⟩) rfl rfl ?_ | refine Or.inl (CCallK_intro e51 (fun hg => ⟨by first | exact trivial | exact hg | exact ⟨hg, hg⟩ | (simp; done) | (simp_all only [Bool.not_false, Bool.not_true, and_self]; done), c51 C.1 (by omega) h⟩) rfl rfl ?_)
 refine sv7 ?_
 refine scs ?_
 constructor <;> intro hq
 ·have hr : unlinkM m b h = (m, b, false) := by
   rw [hlk, if_neg]
   rw [hkb]
   revert hq
   cases C.2 <;> cases bktOk b.Head b.Ver b.Lock <;> cases (C.1.any fun y => y == h) <;> simp
  rw [hr]
  refine scs ?_
  refine FloatR_intro [(0, []), (1, []), (2, [1]), (3, []), (4, [])] (by kernel_rfl) ?_
  refine sv7 ?_
  refine scs ?_
  refine Fin.nt results21 [5, 6, 7, 8] ?_ ?_ ?_ <;> try trivial
  all_goals exact entd
 have hok : C.2 = true /\ (bktB b = true /\ (C.1.any fun y => y == h) = true) := by
  rw [hkb]
  revert hq
  cases C.2 <;> cases bktOk b.Head b.Ver b.Lock <;> cases (C.1.any fun y => y == h) <;> simp
 clear hq
 obtain ⟨hc2, hb2, ha2⟩ := hok
 rw [if_pos (by rw [hc2, hb2, ha2]; rfl)] at hlk
 have hin : h ∈ C.1 := by
  obtain ⟨y, hy, hye⟩ := List.any_eq_true.1 ha2
  rw [<- eq_of_beq hye]; exact hy
 obtain ⟨hme, hlv, hnd⟩ := hmem hin
 obtain ⟨_, _, hsh⟩ := memOk_heap hme
 obtain ⟨ht, _, _⟩ := handle_pos (live_iff hlv).1
 obtain ⟨i, hi, hp, hbef⟩ : ∃ i, ∃ hi : i < C.1.length, (C.1[i] == h) = true /\ ∀ j (hj : j < C.1.length), j < i -> (C.1[j] == h) = false := by
  rcases ixF_cases (fun x => x == h) C.1 with ⟨e, hno⟩ | ⟨i, hi, e, hp, hb⟩
  ·exfalso
   obtain ⟨y, hy, hye⟩ := List.any_eq_true.1 ha2
   obtain ⟨j, hj, rfl⟩ := List.getElem_of_mem hy
   rw [hno j hj] at hye
   cases hye
  ·exact ⟨i, hi, hp, hb⟩
 have hfi := findIdx_at hi (eq_of_beq hp) hbef
 obtain ⟨r, hr0⟩ := hhd (by first | exact hc2 | (rw [hC]; exact hc2)) (by first | exact hin | (rw [hC]; exact hin))
 try rw [hC] at hr0
 have hg0 : ∀ (hj : 0 < C.1.length), C.1[0] = b.Head := fun hj => by
  have h1 : C.1[0]? = some b.Head := by rw [hr0]; rfl
  rw [List.getElem?_eq_getElem hj] at h1
  exact Option.some.inj h1
 obtain ⟨nd, hndd⟩ : ∃ nd, nodeOf m h = nd := ⟨_, rfl⟩
 have hci2 := hci hsh (live_iff hlv).1 hnd
 rw [hndd] at hci2 hlk
 refine scs ?_
 refine ck e52 (hci2) rfl ?_
 refine sv7 ?_
 refine scs ?_
 constructor <;> intro hq
 ·have hbh : b.Head = h := by simpa using hq
  have hr : unlinkM m b h = (m, ⟨nd.Next, b.Ver, b.Lock⟩, true) := by rw [hlk, if_pos hbh]
  rw [hr]
  refine scs ?_
  refine FloatR_intro [(0, []), (1, []), (2, [1]), (3, []), (4, [])] (by kernel_rfl) ?_
  refine sv7 ?_
  refine scs ?_
  refine Fin.nt results21 [5, 6, 7, 8] ?_ ?_ ?_ <;> try trivial
  all_goals exact entd
 have hbh : ¬ b.Head = h := by simpa using hq
 have hi0 : 0 < i := by
  rcases Nat.eq_zero_or_pos i with h0 | h0
  ·exfalso
   subst h0
   exact hbh (by have := eq_of_beq hp; rw [<- this, hg0])
  ·exact h0
 have hgi : i - 1 < C.1.length := by omega
 have hr : unlinkM m b h = ((nextToM m (C.1[i - 1]) nd.Next).1, b, true) := by
  rw [hlk, if_neg hbh, hfi, List.getD_eq_getElem?_getD, List.getElem?_eq_getElem hgi]; rfl
 rw [hr]
 have hnod : C.1.Nodup := by
  rcases chain_good m b.Head with e | ⟨_, hg⟩
  ·rw [hC] at e; rw [e]; exact List.nodup_nil
  ·rw [hC] at hg; exact hg.1
 have heq : ∀ n (hn : n < C.1.length), (C.1[n] == h) = decide (n = i) := fun n hn => by
  rw [Bool.eq_iff_iff, decide_eq_true_eq, beq_iff_eq]
  constructor
  ·intro e
   have hpw := List.pairwise_iff_getElem.1 hnod
   rcases Nat.lt_trichotomy n i with h1 | h1 | h1
   ·exact absurd (e.trans (eq_of_beq hp).symm) (hpw n i hn hi h1)
   ·exact h1
   ·exact absurd ((eq_of_beq hp).trans e.symm) (hpw i n hi hn h1)
  ·rintro rfl
   exact eq_of_beq hp
 refine scs ?_
 refine LoopK_intro (fun zn zs => ∃ (n : Nat) (M : Mem), 1 <= n /\ n <= C.1.length /\ zn = C.1.length - n /\ (M = if n <= i then m else (nextToM m (C.1[i - 1]) nd.Next).1) /\ zs = mkSt [(13, .one (.dat (.int .i64 n))), (9, .one (.own 4)), (2, .one (.dat (.int .i64 h))), (3, .one (.ptr (.own 0 0 0))), (4, .one (.ptr (.own 1 0 0))), (6, .one (.ptr (.own 2 0 0))), (7, .one (.ptr (.own 3 0 0))), (11, .one (.ptr (.own 5 0 0))), (12, .one (.dat (.int .i64 nd.Next)))]
  [.box [.dat (.sl 1 (m.Heap.Bytes.map encI)), .dat (.sl 1 (m.Heap.Class.map encI)), .dat (.sl 1 (m.Lists.Global.map encSList)), .dat (.sl 1 (m.Lists.Own.map encSList))], .box [.dat (.int .i64 b.Head), .dat (.int .i64 b.Ver), .dat (.int .i64 b.Lock)], .box [.emp, .emp, .emp, .emp], .box [.dat (.int .i64 0), .dat (.int .i64 0), .dat (.int .i64 0)], .vec 1 true (C.1.map encI), .box [.own 6, .own 7, .own 8, .own 9], .vec 1 true (M.Heap.Bytes.map encI), .vec 1 true (M.Heap.Class.map encI), .vec 1 true (M.Lists.Global.map encSList), .vec 1 true (M.Lists.Own.map encSList)]) (C.1.length - 1) _
  (Ent.wk [0, 1, 2, 3, 4, 9, 5, 6, 7, 8]) ⟨1, m, Nat.le_refl _, by omega, by omega, by rw [if_pos (by omega)], rfl⟩ ?_
 rintro zn zs ⟨n, M, hn1, hn2, rfl, hM, rfl⟩ K hK
 rcases Nat.lt_or_ge n C.1.length with hlt | hge
 ·have hdi : decide ((n : Int) < ((C.1.length : Nat) : Int)) = true := decide_eq_true (by omega)
  have hw := wrap_succ hlt (show C.1.length <= maxLen by omega)
  have hwi : IntKind.i64.wrap ((n : Int) - 1) = ((n - 1 : Nat) : Int) := by rw [wrap_id (by omega) (by omega)]; omega
  have hgn : n - 1 < C.1.length := by omega
  refine sv6 ?_
  refine scs ?_
  constructor <;> intro hq
  ·have hni : n = i := by rw [heq n hlt] at hq; exact of_decide_eq_true hq
   subst hni
   refine scs ?_
   refine FloatR_intro [(0, []), (1, []), (2, []), (3, []), (4, []), (5, []), (6, []), (7, []), (8, []), (9, []), (10, []), (11, [10])] (by kernel_rfl) ?_
   simp (maxSteps := 2000000) only [go_sem, seval, hwi, hw, getD_map hgn, encI]
   refine scs ?_
   refine ck e8 (hcn C.1[n - 1] nd.Next) rfl ?_
   simp (maxSteps := 2000000) only [go_sem, seval, hwi, hw, getD_map hgn, encI]
   refine scs ?_
   trace_state
   apply hK
   exact ⟨C.1.length - (n + 1), _, by omega, Ent.wk [0, 1, 2, 3, 4, 5, 10, 11, 12, 13], n + 1, (nextToM m (C.1[n - 1]) nd.Next).1, by omega, by omega, rfl, by rw [if_neg (by omega)], rfl⟩
  ·have hni : n ≠ i := by rw [heq n hlt] at hq; exact of_decide_eq_false hq
   apply hK
   have hM2 : M = if n + 1 <= i then m else (nextToM m (C.1[i - 1]) nd.Next).1 := by
    rw [hM]
    by_cases hle : n <= i
    ·rw [if_pos hle, if_pos (by omega)]
    ·rw [if_neg hle, if_neg (by omega)]
   exact ⟨C.1.length - (n + 1), _, by omega, Ent.wk [0, 1, 2, 3, 4, 5, 6, 7, 8, 9], n + 1, M, by omega, by omega, rfl, hM2, rfl⟩
 ·have hge' : n = C.1.length := by omega
  have hdi : decide ((n : Int) < ((C.1.length : Nat) : Int)) = false := decide_eq_false (by omega)
  rw [if_neg (by omega)] at hM
  refine sv1 ?_
  apply hK
  refine evl ?_
  rw [hM]
  refine FloatR_intro [(0, []), (1, []), (2, [1]), (3, []), (4, [])] (by kernel_rfl) ?_
  refine sv7 ?_
  refine scs ?_
  trace_state
  refine Fin.nt results21 [6, 7, 8, 9] ?_ ?_ ?_ <;> try trivial
  all_goals exact entd
end Go.Proofs.YtpniplpnggddpaaGreat.Mod
namespace Go.Proofs.YtpniplpnggddpaaGreat.fnExactUnlink
open Go.Proofs.Tryz Go.Abs Go.Proofs.YtpniplpnggddpaaGreat.Ty Go.ChangeShapes Go.WideShapes Go.ChangeAt Go.RowKit Go.Proofs.YtpniplpnggddpaaGreat.Mod
set_option linter.unusedSimpArgs false
set_option linter.unusedVariables false
set_option maxHeartbeats 8000000
set_option maxRecDepth 100000
theorem c6 (m : Mem) (hkm : m.lok) (b : Bkt) (h : Int) : Ctr prog 6 [.agg ((encMem m).map .dat), .agg ((encBkt b).map .dat), .one (.dat (.int .i64 h))] [] (.one (.dat (.bool true))) [] := by
 simp only [encBkt, encMem, List.map_cons, List.map_nil]
 refine Ctr.bd mixed func6 rfl ?_
 refine sv49 ?_
 repeat ((with_reducible show _ = true /\ _); refine ⟨by kernel_rfl, ?_⟩)
 repeat with_reducible intro ff
 refine CallK_pure e7 (c7 m hkm 1048576 (by decide) (by decide)) rfl ?_
 refine sv49 ?_
 repeat ((with_reducible show _ = true /\ _); refine ⟨by kernel_rfl, ?_⟩)
 repeat with_reducible intro ff
 constructor <;> intro h
 ·refine Fin.nt results6 [] ?_ ?_ ?_ <;> try trivial
 obtain ⟨hsm, hzm, hgm, hhm⟩ := szL_le (by decide) h
 clear h
 repeat ((with_reducible show _ = true /\ _); refine ⟨by kernel_rfl, ?_⟩)
 have hokm := Mem.sok_of hsm
 have hcnm := mcMem_le m
 have hmx : maxLen = 9223372036854775807 := rfl
 obtain ⟨hr, hrk⟩ := unlink_bnd (b := b) (h := h) hsm
 have hrc := mcMem_le (unlinkM m b h).1
 refine FloatE_intro [(0, []), (2, []), (4, []), (1, [2, 4]), (3, [4]), (5, []), (6, []), (7, []), (8, []), (9, []), (10, [0, 2, 4, 6, 7, 8, 9]), (11, [0, 2, 4, 6, 7, 8, 9]), (12, [8, 9]), (13, [9]), (14, [])] [10, 11] (by kernel_rfl) ?_
 refine sv49 ?_
 repeat ((with_reducible show _ = true /\ _); refine ⟨by kernel_rfl, ?_⟩)
 repeat with_reducible intro ff
 refine ck e9 (c9 m hsm) rfl ?_
 refine sv49 ?_
 repeat ((with_reducible show _ = true /\ _); refine ⟨by kernel_rfl, ?_⟩)
 repeat with_reducible intro ff
 refine ck e18 (c18 b) rfl ?_
 refine sv49 ?_
 repeat ((with_reducible show _ = true /\ _); refine ⟨by kernel_rfl, ?_⟩)
 repeat with_reducible intro ff
 refine ck e21 (c21 m hsm b h) rfl ?_
 refine sv49 ?_
 repeat ((with_reducible show _ = true /\ _); refine ⟨by kernel_rfl, ?_⟩)
 repeat with_reducible intro ff
 refine ck e9 (c9 m hsm) rfl ?_
 refine sv49 ?_
 repeat ((with_reducible show _ = true /\ _); refine ⟨by kernel_rfl, ?_⟩)
 repeat with_reducible intro ff
 refine FloatE_intro [(0, []), (1, []), (3, []), (2, [0, 3]), (4, []), (5, []), (6, []), (7, []), (8, []), (9, [0, 1, 3, 5, 6, 7, 8]), (10, [0, 1, 3, 5, 6, 7, 8]), (11, [7, 8]), (12, [8]), (13, [])] [9, 10] (by kernel_rfl) ?_
 refine sv49 ?_
 repeat ((with_reducible show _ = true /\ _); refine ⟨by kernel_rfl, ?_⟩)
 repeat with_reducible intro ff
 refine ck e18 (c18 b) rfl ?_
 refine sv49 ?_
 repeat ((with_reducible show _ = true /\ _); refine ⟨by kernel_rfl, ?_⟩)
 repeat with_reducible intro ff
 refine ck e22 (c22 m hsm b h) rfl ?_
 refine sv49 ?_
 repeat ((with_reducible show _ = true /\ _); refine ⟨by kernel_rfl, ?_⟩)
 repeat with_reducible intro ff
 refine ck e11 (c11 (unlinkM m b h).1 (unlinkM m b h).1 hr hr) rfl ?_
 refine sv49 ?_
 repeat ((with_reducible show _ = true /\ _); refine ⟨by kernel_rfl, ?_⟩)
 repeat with_reducible intro ff
 refine ck e20 (c20 (unlinkM m b h).2.1 (unlinkM m b h).2.1) rfl ?_
 refine sv49 ?_
 repeat ((with_reducible show _ = true /\ _); refine ⟨by kernel_rfl, ?_⟩)
 repeat with_reducible intro ff
 refine ck e9 (c9 m hsm) rfl ?_
 refine sv49 ?_
 repeat ((with_reducible show _ = true /\ _); refine ⟨by kernel_rfl, ?_⟩)
 repeat with_reducible intro ff
 refine ck e11 (c11 m m hsm hsm) rfl ?_
 refine sv49 ?_
 repeat ((with_reducible show _ = true /\ _); refine ⟨by kernel_rfl, ?_⟩)
 repeat with_reducible intro ff
 refine CallK_os [12, 13, 14, 15] e12 (by simp [osOk, St.obj, find]) (c12 m hokm 1 (by omega) (by omega)) rfl ?_
 refine sv49 ?_
 repeat ((with_reducible show _ = true /\ _); refine ⟨by kernel_rfl, ?_⟩)
 repeat with_reducible intro ff
 have hkk : decide ((1 + (mcMem m : Int)) < 0) = false := by simp only [decide_eq_false_iff_not]; omega
 refine sv50 ?_
 repeat ((with_reducible show _ = true /\ _); refine ⟨by kernel_rfl, ?_⟩)
 repeat with_reducible intro ff
 refine ck e11 (c11 (unlinkM m b h).1 (unlinkM m b h).1 hr hr) rfl ?_
 refine sv50 ?_
 repeat ((with_reducible show _ = true /\ _); refine ⟨by kernel_rfl, ?_⟩)
 repeat with_reducible intro ff
 refine ck e20 (c20 (unlinkM m b h).2.1 (unlinkM m b h).2.1) rfl ?_
 refine sv50 ?_
 repeat ((with_reducible show _ = true /\ _); refine ⟨by kernel_rfl, ?_⟩)
 repeat with_reducible intro ff
 refine CallK_os [19, 20, 21, 22] e12 (by simp [osOk, St.obj, find]) (c12_e (unlinkM m b h).1 hrk 1 (by omega) (by omega)) rfl ?_
 refine sv50 ?_
 repeat ((with_reducible show _ = true /\ _); refine ⟨by kernel_rfl, ?_⟩)
 repeat with_reducible intro ff
 refine ck e13 (c13 (unlinkM m b h).1 hrk 1 (by omega) (by omega)) rfl ?_
 refine sv50 ?_
 repeat ((with_reducible show _ = true /\ _); refine ⟨by kernel_rfl, ?_⟩)
 repeat with_reducible intro ff
 have hq4 : decide ((1 + (mcMem (unlinkM m b h).1 : Int)) < 0) = false := by simp only [decide_eq_false_iff_not]; omega
 refine sv51 ?_
 repeat ((with_reducible show _ = true /\ _); refine ⟨by kernel_rfl, ?_⟩)
 repeat with_reducible intro ff
 refine FloatE_intro [(0, []), (2, []), (4, []), (1, [2, 4]), (3, [4]), (5, []), (6, []), (7, []), (8, []), (9, []), (10, [0, 2, 4, 6, 7, 8, 9]), (11, [0, 2, 4, 6, 7, 8, 9]), (12, [8, 9]), (13, [9]), (14, [])] [10, 11] (by kernel_rfl) ?_
 refine sv51 ?_
 repeat ((with_reducible show _ = true /\ _); refine ⟨by kernel_rfl, ?_⟩)
 repeat with_reducible intro ff
 refine ck e9 (c9 m hsm) rfl ?_
 refine sv51 ?_
 repeat ((with_reducible show _ = true /\ _); refine ⟨by kernel_rfl, ?_⟩)
 repeat with_reducible intro ff
 refine ck e18 (c18 b) rfl ?_
 refine sv51 ?_
 repeat ((with_reducible show _ = true /\ _); refine ⟨by kernel_rfl, ?_⟩)
 repeat with_reducible intro ff
 refine ck e22 (c22 m hsm b h) rfl ?_
 refine sv51 ?_
 repeat ((with_reducible show _ = true /\ _); refine ⟨by kernel_rfl, ?_⟩)
 repeat with_reducible intro ff
 refine ck e11 (c11 (unlinkM m b h).1 (unlinkM m b h).1 hr hr) rfl ?_
 refine sv51 ?_
 repeat ((with_reducible show _ = true /\ _); refine ⟨by kernel_rfl, ?_⟩)
 repeat with_reducible intro ff
 refine ck e20 (c20 (unlinkM m b h).2.1 (unlinkM m b h).2.1) rfl ?_
 refine sv51 ?_
 repeat ((with_reducible show _ = true /\ _); refine ⟨by kernel_rfl, ?_⟩)
 repeat with_reducible intro ff
 refine ck e13 (c13 (unlinkM m b h).1 hrk 1 (by omega) (by omega)) rfl ?_
 refine sv51 ?_
 repeat ((with_reducible show _ = true /\ _); refine ⟨by kernel_rfl, ?_⟩)
 repeat with_reducible intro ff
 refine Fin.nt results6 [] ?_ ?_ ?_ <;> try trivial
theorem law (dss : List (List D)) (h : WTAll prog 8 f6.params.toList dss) : Ctr prog 6 (argAVs prog f6.params.toList dss) [] (.one (.dat (.bool true))) [] := by
 rw [params6] at *
 simp only [WTAll, List.toList_toArray] at h
 obtain ⟨_, _, rfl, h0, ⟨_, _, rfl, h1, ⟨_, _, rfl, h2, rfl⟩⟩⟩ := h
 obtain ⟨x0, rfl, w0, k0⟩ := decMem _ _ h0
 obtain ⟨x1, rfl, w1, k1⟩ := decBkt _ _ h1
 obtain ⟨x2, rfl, w2⟩ := decInt underlying3 h2
 simp only [argAVs, argAV, List.toList_toArray, underlying3, underlying29, underlying50, List.headD_cons]
 exact c6 x0 k0 x1 x2

theorem own : ownKnob prog.godebug = none := by kernel_rfl

set_option maxRecDepth 100000 in
theorem lifted (os : Os) (started : os.Started) (H : Type) (enc : TypeId × Value -> H) :
  ReturnsInHanded {} Tryz.checked os 6 .any (Rows.fnExactUnlinkSpec.pre6 enc prog f6 Rows.fnExactUnlinkRow.domain false) (Rows.fnExactUnlinkSpec.post enc prog f6 false true false false) := by
 refine returnsInHanded_of_change (C := Tryz.checked) own started (by kernel_rfl) func6
  (ChangeSpec.witness6 (enc := enc) (C := Tryz.checked) false ⟨#[], #[.agg #[.slice none 0 0, .slice none 0 0, .slice none 0 0, .slice none 0 0], .agg #[.int .i64 0, .int .i64 0, .int .i64 0], .int .i64 0], []⟩ 8 (by kernel_rfl) (by kernel_rfl) (by kernel_rfl) (by kernel_rfl)) ?_
 intro W base args ds gs before hval0 hW hcnd _
 have hW' := hW
 obtain ⟨p, q, hA0, hV, rfl, hfz, hnd⟩ := hW'
 have hA : DataW.TrodAll enc prog W 0 (fun _ => true) true f6.params.toList args.toList ds p := hA0
 obtain ⟨dss, h1, h2⟩ := args_rep (n := 8) (by kernel_rfl) (fun j t v hj hv => hval0 j t v (by simpa using hj) (by simpa using hv)) hA
 have hs : Rows.fnExactUnlinkSpec.fn H (ds ++ gs) = { results := [.lit (.bool true)], args := ds, vars := [] } := by
  obtain ⟨rfl, rfl⟩ := trodVars_none hV
  rw [params6] at hA
  obtain ⟨v0, vs0, d0, ds0, p0, q0, _, rfl, _, _, r0⟩ := trodAll_cons hA
  obtain ⟨v1, vs1, d1, ds1, p1, q1, _, rfl, _, _, r1⟩ := trodAll_cons r0
  obtain ⟨v2, vs2, d2, ds2, p2, q2, _, rfl, _, _, r2⟩ := trodAll_cons r1
  obtain ⟨_, rfl, _⟩ := trodAll_nil r2
  rfl
 have hc := law_calls (law dss h1) h2
 rw [Array.toArray_toList] at hc
 refine hc.mono fun e W' ⟨he, hb⟩ => ?_
 subst he
 exact ⟨_, rfl, law_post (by kernel_rfl) (by kernel_rfl) rfl hW hs rfl underlying4 hb⟩

theorem closed : joinedFacts prog 6 f6 Rows.fnExactUnlinkSpec Rows.fnExactUnlinkRow = true := by
 unfold joinedFacts
 simp only [Bool.and_eq_true, Whole.laidOut, Whole.rowed, Whole.stops, Whole.knobs, Whole.keys, Whole.heard, Whole.enter, Whole.lifts, Whole.make, true_and, and_true]
 repeat' (refine And.intro ?_ ?_)
 all_goals (as_aux_lemma => kernel_rfl)

theorem over : Rows.fnExactUnlinkRow.holds Tryz.pinned (OpenSpec.ofChange Rows.fnExactUnlinkSpec) :=
 OpenClaim.holds_of_wide 6 f6 rfl rfl rfl rfl rfl rfl rfl ⟨rfl, rfl, rfl, rfl, rfl⟩ rfl rfl rfl rfl rfl (by kernel_rfl) func6 closed
  (of_decide_eq_true (by kernel_rfl)) (by unfold Func.isWrapper; first | (rw [if_pos (by decide +kernel)]; kernel_rfl) | (rw [if_neg (by decide +kernel)]; exact ⟨rfl, rfl⟩))
  (fun os started H enc _ => lifted os started H enc)

theorem proved : Rows.FnExactUnlinkSaid :=
 over
end Go.Proofs.YtpniplpnggddpaaGreat.fnExactUnlink
