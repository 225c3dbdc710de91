/- Contracts: Draws. -/
import Derived.Test.YtppbonemkipgeaaRows
import Derived.Test.YtppbonemkipgeaaDTy
import Derived.Test.YtppbonemkipgeaaAbsTac
import Derived.Test.YtppbonemkipgeaaAbsData
import Derived.Test.YtppbonemkipgeaaAbsCellT
import Derived.Test.YtppbonemkipgeaaDFam2
import Derived.Test.YtppbonemkipgeaaDMap
import Derived.WalkKit
import Derived.ProofKit
import Derived.OpenShut
namespace Go.Proofs.Ytppbonemkipgeaa.Mod
open Go.Proofs.Try Go.Abs Go.Proofs.Ytppbonemkipgeaa.Ty Go.ChangeShapes Go.WideShapes Go.ChangeAt Go.RowKit
set_option linter.unusedSimpArgs false
set_option linter.unusedVariables false
set_option maxHeartbeats 8000000
set_option maxRecDepth 100000
theorem mapGet_del_ne {k i : Int} (h : i ≠ k) : ∀ l : List KV, mapGet i (mapDel l k) = mapGet i l
 | [] => rfl
 | x :: l => by
  have ih := mapGet_del_ne h l
  unfold mapDel at ih ⊢
  rw [List.filter_cons]
  by_cases hx : x.Key = k
  ·have h1 : (!(x.Key == k)) = false := by simp [hx]
   rw [h1, if_neg (by simp), ih, mapGet, if_neg (by omega)]
  ·have h1 : (!(x.Key == k)) = true := by simp [hx]
   rw [h1, if_pos rfl, mapGet, mapGet, ih]
theorem mapGet_no {k : Int} : ∀ {l : List KV}, (∀ x ∈ l, x.Key ≠ k) -> mapGet k l = (0, false)
 | [], _ => rfl
 | x :: l, h => by
  rw [mapGet, if_neg (h x (by simp)), mapGet_no fun y hy => h y (by simp [hy])]
theorem mapDel_key {l : List KV} {k : Int} {x : KV} (h : x ∈ mapDel l k) : x ∈ l /\ x.Key ≠ k := by
 unfold mapDel at h
 rw [List.mem_filter] at h
 exact ⟨h.1, by simpa using h.2⟩
theorem mapGet_del (k : Int) (l : List KV) : mapGet k (mapDel l k) = (0, false) := mapGet_no fun x hx => (mapDel_key hx).2
theorem insF_mem {α : Type} {p : α -> Bool} {y z : α} : ∀ {m : List α}, z ∈ insF p y m ↔ z = y \/ z ∈ m
 | [] => by simp [insF]
 | a :: m => by
  unfold insF
  split
  ·simp
  ·rw [List.mem_cons, insF_mem, List.mem_cons]
   constructor
   ·rintro (h | h | h) <;> simp [h]
   ·rintro (h | h | h) <;> simp [h]
theorem mapGet_ins_ne {p : KV -> Bool} {y : KV} {i : Int} (h : y.Key ≠ i) : ∀ m : List KV, mapGet i (insF p y m) = mapGet i m
 | [] => by simp [insF, mapGet, h]
 | a :: m => by
  unfold insF
  split
  ·rw [mapGet, if_neg h]
  ·rw [mapGet, mapGet, mapGet_ins_ne h m]
theorem mapGet_ins {p : KV -> Bool} {y : KV} : ∀ {m : List KV}, (∀ x ∈ m, x.Key ≠ y.Key) -> mapGet y.Key (insF p y m) = (y.Val, true)
 | [], _ => by rw [insF, mapGet, if_pos rfl]
 | a :: m, h => by
  unfold insF
  split
  ·rw [mapGet, if_pos rfl]
  ·rw [mapGet, if_neg (h a (by simp)), mapGet_ins fun x hx => h x (by simp [hx])]
theorem mapGet_put (l : List KV) (k v : Int) : mapGet k (mapPut l k v) = (v, true) :=
 mapGet_ins (y := ⟨k, v⟩) fun x hx => (mapDel_key hx).2
theorem mapGet_put_ne {l : List KV} {k v i : Int} (h : i ≠ k) : mapGet i (mapPut l k v) = mapGet i l := by
 unfold mapPut
 rw [mapGet_ins_ne (fun e => h e.symm), mapGet_del_ne h]
def Asc (l : List KV) : Prop := l.Pairwise fun a b => a.Key < b.Key
def RngKV (x : KV) : Prop := (0 <= x.Key /\ x.Key <= 99) /\ 0 <= x.Val /\ x.Val <= 65535
theorem asc_of {l : List KV} (h : ∀ i, 0 < i -> (hi : i < l.length) -> l[i - 1].Key < l[i].Key) : Asc l := by
 unfold Asc
 rw [List.pairwise_iff_getElem]
 have key : ∀ (j i : Nat) (hj : j < l.length) (hi : i < l.length), i < j -> l[i].Key < l[j].Key := fun j => by
  induction j with
  | zero => intro i _ _ h0; omega
  | succ j ih =>
   intro i hj hi hij
   have h1 := h (j + 1) (by omega) hj
   have h1' : l[j].Key < l[j + 1].Key := h1
   rcases Nat.lt_or_ge i j with h2 | h2
   ·have := ih i (by omega) hi h2; omega
   ·have e : i = j := by omega
    subst e; exact h1'
 exact fun i j hi hj hij => key j i hj hi hij
theorem mapOk_iff (l : List KV) : mapOk l = true ↔ (∀ x ∈ l, RngKV x) /\ Asc l := by
 have hg : ∀ i (hi : i < l.length), mapGood l i = true ↔ RngKV l[i] /\ (0 < i -> l[i - 1].Key < l[i].Key) := fun i hi => by
  unfold mapGood
  rw [List.getD_eq_getElem?_getD, List.getD_eq_getElem?_getD, List.getElem?_eq_getElem hi, List.getElem?_eq_getElem (show i - 1 < l.length by omega), Option.getD_some, Option.getD_some]
  simp only [within, Bool.and_eq_true, Bool.or_eq_true, decide_eq_true_eq, beq_iff_eq, RngKV]
  constructor
  ·rintro ⟨⟨h1, h2⟩, h3⟩
   exact ⟨⟨h1, h2⟩, fun h0 => h3.elim (fun e => by omega) id⟩
  ·rintro ⟨⟨h1, h2⟩, h3⟩
   refine ⟨⟨h1, h2⟩, ?_⟩
   by_cases h0 : i = 0
   ·exact .inl h0
   ·exact .inr (h3 (by omega))
 constructor
 ·intro h
  simp only [mapOk, List.all_eq_true, List.mem_range] at h
  refine ⟨fun x hx => ?_, asc_of fun i h0 hi => ((hg i hi).1 (h i hi)).2 h0⟩
  obtain ⟨i, hi, rfl⟩ := List.getElem_of_mem hx
  exact ((hg i hi).1 (h i hi)).1
 ·rintro ⟨h1, h2⟩
  unfold Asc at h2
  rw [List.pairwise_iff_getElem] at h2
  exact mapOk_true fun i hi => (hg i hi).2 ⟨h1 _ (List.getElem_mem hi), fun h0 => h2 _ _ (by omega) hi (by omega)⟩
theorem asc_del {l : List KV} (h : Asc l) (k : Int) : Asc (mapDel l k) := List.Pairwise.filter _ h
theorem asc_ins {y : KV} : ∀ {m : List KV}, Asc m -> (∀ x ∈ m, x.Key ≠ y.Key) -> Asc (insF (fun x : KV => decide (y.Key < x.Key)) y m)
 | [], _, _ => by simp [insF, Asc]
 | a :: m, h, hk => by
  unfold Asc at h ⊢
  rw [List.pairwise_cons] at h
  unfold insF
  have ha := hk a (by simp)
  split
  ·rename_i hlt
   have hlt : y.Key < a.Key := by simpa using hlt
   refine List.pairwise_cons.2 ⟨fun x hx => ?_, List.pairwise_cons.2 h⟩
   rcases List.mem_cons.1 hx with rfl | hx
   ·exact hlt
   ·have := h.1 x hx; omega
  ·rename_i hlt
   have hlt : ¬ y.Key < a.Key := by simpa using hlt
   refine List.pairwise_cons.2 ⟨fun x hx => ?_, asc_ins (m := m) h.2 fun x hx => hk x (by simp [hx])⟩
   rcases insF_mem.1 hx with rfl | hx
   ·omega
   ·exact h.1 x hx
theorem mapOk_del {l : List KV} (h : mapOk l = true) (k : Int) : mapOk (mapDel l k) = true := by
 obtain ⟨h1, h2⟩ := (mapOk_iff l).1 h
 exact (mapOk_iff _).2 ⟨fun x hx => h1 x (mapDel_key hx).1, asc_del h2 k⟩
theorem mapOk_put {l : List KV} (h : mapOk l = true) {k v : Int} (hk : 0 <= k /\ k <= 99) (hv : 0 <= v /\ v <= 65535) : mapOk (mapPut l k v) = true := by
 obtain ⟨h1, h2⟩ := (mapOk_iff l).1 h
 refine (mapOk_iff _).2 ⟨fun x hx => ?_, asc_ins (y := ⟨k, v⟩) (asc_del h2 k) fun x hx => (mapDel_key hx).2⟩
 rcases insF_mem.1 hx with rfl | hx
 ·exact ⟨hk, hv⟩
 ·exact h1 x (mapDel_key hx).1
theorem mapOk_cmd {l : List KV} (h : mapOk l = true) (c : Cmd) : mapOk (cmdDo l c).1 = true := by
 cases hb : (mapOk l && cmdOk c.Kind c.Key c.Val) with
 | false => rw [cmdDo_bad hb]; exact h
 | true =>
  have hc : cmdOk c.Kind c.Key c.Val = true := by rw [h, Bool.true_and] at hb; exact hb
  have hk : 0 <= c.Key /\ c.Key <= 99 := by
   simp only [cmdOk, within, Bool.and_eq_true, decide_eq_true_eq] at hc; exact hc.1.2
  have hv : c.Kind = 2 -> 0 <= c.Val /\ c.Val <= 65535 := fun h2 => by
   simp only [cmdOk, within, Bool.and_eq_true, Bool.or_eq_true, decide_eq_true_eq, beq_iff_eq] at hc
   rcases hc.2 with ⟨_, h3⟩ | h3
   ·exact h3
   ·omega
  unfold cmdDo
  rw [hb, if_pos rfl]
  split
  ·exact h
  ·split
   ·rename_i h2; exact mapOk_put h hk (hv h2)
   ·split
    ·exact mapOk_del h _
    ·exact mapOk_put h hk (by omega)
theorem mapOk_cmdsGo : ∀ (r : List Cmd) {l : List KV} (o : List Res), mapOk l = true -> mapOk (cmdsGo l o r).1 = true
 | [], _, _, h => h
 | c :: r, l, o, h => by rw [cmdsGo]; exact mapOk_cmdsGo r _ (mapOk_cmd h c)
theorem cmdsGo_app : ∀ (a b : List Cmd) (l : List KV) (o : List Res), cmdsGo l o (a ++ b) = cmdsGo (cmdsGo l o a).1 (cmdsGo l o a).2 b
 | [], _, _, _ => rfl
 | c :: a, b, l, o => by rw [List.cons_append, cmdsGo, cmdsGo, cmdsGo_app a b]
theorem cmdsGo_out : ∀ (r : List Cmd) (l : List KV) (o : List Res), cmdsGo l o r = ((cmdsGo l [] r).1, o ++ (cmdsGo l [] r).2)
 | [], l, o => by simp [cmdsGo]
 | c :: r, l, o => by
  rw [cmdsGo, cmdsGo_out r, cmdsGo, cmdsGo_out r _ ([] ++ _)]
  simp
theorem cmdsDo_cut (l : List KV) (c : List Cmd) (k : Nat) : (cmdsDo l c).1 = (cmdsDo (cmdsDo l (c.take k)).1 (c.drop k)).1 /\ (cmdsDo l c).2 = (cmdsDo l (c.take k)).2 ++ (cmdsDo (cmdsDo l (c.take k)).1 (c.drop k)).2 := by
 have h1 := cmdsGo_app (c.take k) (c.drop k) l []
 rw [List.take_append_drop] at h1
 have h2 := cmdsGo_out (c.drop k) (cmdsGo l [] (c.take k)).1 (cmdsGo l [] (c.take k)).2
 unfold cmdsDo
 rw [h1, h2]
 exact ⟨rfl, rfl⟩
theorem asc_ext : ∀ {a b : List KV}, Asc a -> Asc b -> (∀ k, mapGet k a = mapGet k b) -> a = b
 | [], [], _, _, _ => rfl
 | [], y :: b, _, _, h => by have := h y.Key; simp [mapGet] at this
 | x :: a, [], _, _, h => by have := h x.Key; simp [mapGet] at this
 | x :: a, y :: b, ha, hb, h => by
  unfold Asc at ha hb
  rw [List.pairwise_cons] at ha hb
  have na : mapGet x.Key a = (0, false) := mapGet_no fun z hz => by have := ha.1 z hz; omega
  have nb : mapGet y.Key b = (0, false) := mapGet_no fun z hz => by have := hb.1 z hz; omega
  have hx := h x.Key
  have hy := h y.Key
  rw [mapGet, if_pos rfl, mapGet] at hx
  rw [mapGet, mapGet, if_pos rfl] at hy
  have hk : x.Key = y.Key := by
   apply Classical.byContradiction
   intro hn
   rw [if_neg (fun e => hn e.symm)] at hx
   rw [if_neg hn] at hy
   have e1 : x.Key < y.Key \/ y.Key < x.Key := by omega
   rcases e1 with e1 | e1
   ·rw [mapGet_no (k := x.Key) (l := b) fun z hz => by have := hb.1 z hz; omega] at hx; simp at hx
   ·rw [mapGet_no (k := y.Key) (l := a) fun z hz => by have := ha.1 z hz; omega] at hy; simp at hy
  rw [if_pos hk.symm] at hx
  have hv : x.Val = y.Val := by simpa using hx
  have hxy : x = y := by
   cases x; cases y
   simp only at hk hv
   rw [hk, hv]
  subst hxy
  rw [asc_ext (a := a) (b := b) ha.2 hb.2 fun k => ?_]
  by_cases e : x.Key = k
  ·subst e; rw [na, nb]
  ·have := h k
   rw [mapGet, mapGet, if_neg e, if_neg e] at this
   exact this
def encB (x : Int) : List D := [.int .u8 x]
def curO (b : List Int) (i : Nat) (h : Int) : AObj := .box [.dat (.sl 1 (b.map encB)), .dat (.int .i64 (i : Int)), .dat (.int .i64 h)]
def IsCur (b : List Int) (x : AObj) : Prop := ∃ (i : Nat) (h : Int), i <= b.length /\ x = curO b i h
def BytesL (b : List Int) : Prop := b.length <= 1048576 /\ ∀ x ∈ b, 0 <= x /\ x <= 255
theorem decBytes {P : Program} {t e : TypeId} (ht : P.underlying t = some (.slice e)) (he : P.underlying e = some (.int .u8)) (hsz : P.cellsOf e = 1) {n : Nat} {ds : List D} (h : WT P n t ds) : ∃ b : List Int, ds = [.sl 1 (b.map encB)] /\ b.length <= maxLen /\ ∀ x ∈ b, 0 <= x /\ x <= 255 := by
 obtain ⟨l, h1, h2, h3⟩ := decSl (enc := encB) (q := fun x => (Lit.int .u8 x).wf = true) ht hsz (fun m ds h => by
  cases m with
  | zero => exact h.elim
  | succ m =>
   unfold WT at h
   rw [he] at h
   exact h) h
 refine ⟨l, h1, h2, fun x hx => ?_⟩
 have := h3 x hx
 simpa [Lit.wf, IntKind.min, IntKind.max, IntKind.signed, IntKind.bits] using this
def Rnew (b : List Int) (r : AV) (xs : List AObj) : Prop := ∃ h, r = .one (.ptr (.own 1 0 0)) /\ xs = [.box [.dat (.sl 1 (b.map encB)), .dat (.int .i64 (0 : Int)), .dat (.int .i64 h)]]
def Rint (b : List Int) (p : Int -> Prop) (r : AV) (xs : List AObj) : Prop := ∃ x, p x /\ r = .one (.dat (.int .i64 x)) /\ ∃ (i' : Nat) (h' : Int), i' <= b.length /\ xs = [.box [.dat (.sl 1 (b.map encB)), .dat (.int .i64 (i' : Int)), .dat (.int .i64 h')]]
def Rbool (b : List Int) (r : AV) (xs : List AObj) : Prop := ∃ x, r = .one (.dat (.bool x)) /\ ∃ (i' : Nat) (h' : Int), i' <= b.length /\ xs = [.box [.dat (.sl 1 (b.map encB)), .dat (.int .i64 (i' : Int)), .dat (.int .i64 h')]]
def Rpick (b : List Int) (l : List Int) (r : AV) (xs : List AObj) : Prop := ∃ x ∈ l, r = .one (.dat (.int .i64 x)) /\ ∃ (i' : Nat) (h' : Int), i' <= b.length /\ xs = [.box [.dat (.sl 1 (b.map encB)), .dat (.int .i64 (i' : Int)), .dat (.int .i64 h')], .vec 1 true (l.map encI)]
theorem and255 (a : Int) : 0 <= bitsD .and .i64 a 255 /\ bitsD .and .i64 a 255 <= 255 := by
 have h : (BitVec.ofInt 64 a &&& BitVec.ofInt 64 255).toNat <= 255 := by
  rw [BitVec.toNat_and]
  exact Nat.le_trans Nat.and_le_right (by decide)
 have e : bitsD .and .i64 a 255 = IntKind.i64.wrap ((BitVec.ofInt 64 a &&& BitVec.ofInt 64 255).toNat : Int) := rfl
 rw [e, wrap_id (by omega) (by omega)]
 omega
theorem c45 (b : List Int) (hb : BytesL b) : CtrC prog 45 [.one (.dat (.sl 1 (b.map encB)))] [] (Rnew b) := by
 have hmx : maxLen = 9223372036854775807 := rfl
 obtain ⟨hl, hbv⟩ := hb
 refine CtrC.body mixed func45 rfl (fun bl => ?_) ?_
 ·refine sv2 ?_
  refine scs ?_
  refine LoopK_intro (fun zn zs => ∃ (i : Nat) (h : Int), i <= min b.length 4000 /\ zn = min b.length 4000 - i /\ zs = mkSt [(4, .one (.dat (.int .i64 i))), (3, .one (.dat (.int .i64 h))), (0, .one (.dat (.sl 1 (b.map encB))))] [.ballast bl]) (min b.length 4000) _
   (Ent.wk [0]) ⟨0, _, by omega, by omega, rfl⟩ ?_
  rintro zn zs ⟨i, h, hi, rfl, rfl⟩ K hK
  rcases Nat.lt_or_ge i (min b.length 4000) with hlt | hge
  ·have hdi : decide ((i : Int) < ((min b.length 4000 : Nat) : Int)) = true := decide_eq_true (by omega)
   have hw := wrap_succ hlt (show min b.length 4000 <= maxLen by omega)
   have h1 : decide ((i : Int) < (b.length : Int)) = true := decide_eq_true (by omega)
   have h2 : decide ((i : Int) < 4000) = true := decide_eq_true (by omega)
   have hgi : i < b.length := by omega
   simp (maxSteps := 2000000) only [go_sem, seval, h1, h2, hw, getD_map hgi, encB]
   refine scs ?_
   (apply hK
    exact ⟨min b.length 4000 - (i + 1), _, by omega, Ent.wk [0], i + 1, _, by omega, rfl, rfl⟩)
  ·have h3 : (decide ((i : Int) < (b.length : Int)) && decide ((i : Int) < 4000)) = false := by
    simp only [Bool.and_eq_false_iff, decide_eq_false_iff_not]; omega
   cases h1 : decide ((i : Int) < (b.length : Int)) with
   | false =>
    simp (maxSteps := 2000000) only [go_sem, seval, h1]
    apply hK
    refine sv2 ?_
    refine FinCN.nt results45 [1] (.one (.ptr (.own 1 0 0))) [.box [.dat (.sl 1 (b.map encB)), .dat (.int .i64 (0 : Int)), .dat (.int .i64 h)]] (⟨h, rfl, rfl⟩) ?_ ?_ ?_ <;> try trivial
    all_goals exact entd
   | true =>
    rw [h1, Bool.true_and] at h3
    simp (maxSteps := 2000000) only [go_sem, seval, h1, h3]
    apply hK
    refine sv2 ?_
    refine FinCN.nt results45 [1] (.one (.ptr (.own 1 0 0))) [.box [.dat (.sl 1 (b.map encB)), .dat (.int .i64 (0 : Int)), .dat (.int .i64 h)]] (⟨h, rfl, rfl⟩) ?_ ?_ ?_ <;> try trivial
    all_goals exact entd
 ·exact ⟨_, _, ⟨0, rfl, rfl⟩, by simp⟩
theorem c73 (b : List Int) (hb : BytesL b) (i : Nat) (h : Int) (hi : i <= b.length) : CtrC prog 73 [.one (.ptr (.own 1 0 0))] [.box [.dat (.sl 1 (b.map encB)), .dat (.int .i64 (i : Int)), .dat (.int .i64 h)]] (Rint b fun x => 0 <= x /\ x <= 255) := by
 have hmx : maxLen = 9223372036854775807 := rfl
 obtain ⟨hl, hbv⟩ := hb
 refine CtrC.body mixed func73 rfl (fun bl => ?_) ?_
 ·rcases Nat.lt_or_ge i b.length with hgi | hge
  ·have hdi : decide ((i : Int) < (b.length : Int)) = true := decide_eq_true (by omega)
   have hw := wrap_succ hgi (show b.length <= maxLen by omega)
   simp (maxSteps := 2000000) only [go_sem, seval, hdi, hw, getD_map hgi, encB]
   refine scs ?_
   (refine FinCN.nd results73 [1] ?_ ?_ <;> try trivial); (refine sv3 ?_); exact ⟨_, and255 _, rfl, i + 1, _, by omega, rfl⟩
  ·have hdi : decide ((i : Int) < (b.length : Int)) = false := decide_eq_false (by omega)
   refine sv1 ?_
   refine scs ?_
   (refine FinCN.nd results73 [1] ?_ ?_ <;> try trivial); (refine sv3 ?_); exact ⟨_, and255 _, rfl, i, _, hi, rfl⟩
 ·exact ⟨_, _, ⟨0, by omega, rfl, 0, 0, Nat.zero_le _, rfl⟩, by simp⟩
theorem c47 (b : List Int) (hb : BytesL b) (i : Nat) (h : Int) (hi : i <= b.length) (n : Int) (hn : n <= 1099511627776) : CtrC prog 47 [.one (.ptr (.own 1 0 0)), .one (.dat (.int .i64 n))] [.box [.dat (.sl 1 (b.map encB)), .dat (.int .i64 (i : Int)), .dat (.int .i64 h)]] (Rint b fun x => 0 <= x /\ (0 < n -> x < n) /\ (n <= 0 -> x = 0)) := by
 refine CtrC.body mixed func47 rfl (fun bl => ?_) ?_
 ·refine evl ?_
  refine scs ?_
  constructor <;> intro hq
  ·have h0 : n <= 0 := of_decide_eq_true hq
   (refine FinCN.nd results47 [1] ?_ ?_ <;> try trivial); (refine sv3 ?_); exact ⟨0, ⟨by omega, by omega, fun _ => rfl⟩, rfl, i, h, hi, rfl⟩
  have h0 : ¬ n <= 0 := of_decide_eq_false hq
  constructor <;> intro hq
  ·refine CallK_cell [1] e73 (c73 b hb i h hi) rfl rfl ?_
   rintro r0 xs' ⟨x, hx, rfl, i', h', hi', rfl⟩ -
   refine evl ?_
   refine scs ?_
   (refine FinCN.nd results47 [1] ?_ ?_ <;> try trivial); (refine sv3 ?_); exact ⟨_, ⟨Int.tmod_nonneg _ hx.1, fun _ => Int.tmod_lt_of_pos _ (by omega), fun h' => absurd h' h0⟩, rfl, i', h', hi', rfl⟩
  refine CallK_cell [1] e73 (c73 b hb i h hi) rfl rfl ?_
  rintro r0 xs' ⟨x, hx, rfl, i1, h1, hi1, rfl⟩ -
  refine evl ?_
  refine scs ?_
  refine CallK_cell [1] e73 (c73 b hb i1 h1 hi1) rfl rfl ?_
  rintro r0 xs' ⟨y, hy, rfl, i2, h2, hi2, rfl⟩ -
  refine evl ?_
  refine scs ?_
  refine CallK_cell [1] e73 (c73 b hb i2 h2 hi2) rfl rfl ?_
  rintro r0 xs' ⟨z, hz, rfl, i3, h3, hi3, rfl⟩ -
  refine evl ?_
  refine scs ?_
  refine CallK_cell [1] e73 (c73 b hb i3 h3 hi3) rfl rfl ?_
  rintro r0 xs' ⟨w, hw, rfl, i4, h4, hi4, rfl⟩ -
  refine evw ?_
  refine scs ?_
  (refine FinCN.nd results47 [1] ?_ ?_ <;> try trivial); (refine sv3 ?_); exact ⟨_, ⟨Int.emod_nonneg _ (by omega), fun _ => Int.emod_lt_of_pos _ (by omega), fun h' => absurd h' h0⟩, rfl, i4, h4, hi4, rfl⟩
 ·refine ⟨_, _, ⟨0, ⟨by omega, by omega, fun _ => rfl⟩, rfl, 0, 0, Nat.zero_le _, rfl⟩, by simp⟩
theorem c72 (b : List Int) (hb : BytesL b) (i : Nat) (h : Int) (hi : i <= b.length) (n : Int) (hn : n <= 1099511627776) : CtrC prog 72 [.one (.ptr (.own 1 0 0)), .one (.dat (.int .i64 n))] [.box [.dat (.sl 1 (b.map encB)), .dat (.int .i64 (i : Int)), .dat (.int .i64 h)]] (Rbool b) := by
 refine CtrC.body mixed func72 rfl (fun bl => ?_) ?_
 ·refine evl ?_
  refine scs ?_
  refine CallK_cell [1] e47 (c47 b hb i h hi n hn) rfl rfl ?_
  rintro r0 xs' ⟨x, _, rfl, i', h', hi', rfl⟩ -
  refine evl ?_
  (refine FinCN.nd results72 [1] ?_ ?_ <;> try trivial); (refine sv3 ?_); exact ⟨_, rfl, i', h', hi', rfl⟩
 ·exact ⟨_, _, ⟨false, rfl, 0, 0, Nat.zero_le _, rfl⟩, by simp⟩
theorem c71 (b : List Int) (hb : BytesL b) (i : Nat) (h : Int) (hi : i <= b.length) (l : List Int) (h0 : l ≠ []) (hl : l.length <= 1000) : CtrC prog 71 [.one (.ptr (.own 1 0 0)), .one (.own 2)] [.box [.dat (.sl 1 (b.map encB)), .dat (.int .i64 (i : Int)), .dat (.int .i64 h)], .vec 1 true (l.map encI)] (Rpick b l) := by
 have hp : 0 < l.length := List.length_pos_iff.2 h0
 refine CtrC.body mixed func71 rfl (fun bl => ?_) ?_
 ·refine sv2 ?_
  refine scs ?_
  refine CallK_cell [1] e47 (c47 b hb i h hi (l.length : Int) (by omega)) rfl rfl ?_
  rintro r0 xs' ⟨x, ⟨hx0, hx1, _⟩, rfl, i', h', hi', rfl⟩ -
  obtain ⟨k, rfl⟩ : ∃ k : Nat, x = (k : Int) := ⟨x.toNat, by omega⟩
  have hk : k < l.length := by have := hx1 (by omega); omega
  simp (maxSteps := 2000000) only [go_sem, seval, getD_map hk, encI]
  refine scs ?_
  (refine FinCN.nd results71 [1, 2] ?_ ?_ <;> try trivial); (refine sv3 ?_); exact ⟨_, List.getElem_mem hk, rfl, i', h', hi', rfl⟩
 ·obtain ⟨x, l', rfl⟩ := List.exists_cons_of_ne_nil h0
  exact ⟨_, _, ⟨x, by simp, rfl, 0, 0, Nat.zero_le _, rfl⟩, by simp⟩
def Rmap (b : List Int) (r : AV) (xs : List AObj) : Prop := ∃ l : List KV, l.length <= 8 /\ r = .one (.own 2) /\ ∃ (i' : Nat) (h' : Int), i' <= b.length /\ xs = [.box [.dat (.sl 1 (b.map encB)), .dat (.int .i64 (i' : Int)), .dat (.int .i64 h')], .vec 2 true (l.map encKV)]
def Rcmd (b : List Int) (r : AV) (xs : List AObj) : Prop := ∃ c : Cmd, r = .agg ((encCmd c).map .dat) /\ ∃ (i' : Nat) (h' : Int), i' <= b.length /\ xs = [.box [.dat (.sl 1 (b.map encB)), .dat (.int .i64 (i' : Int)), .dat (.int .i64 h')]]
def Rput (r : AV) (xs : List AObj) : Prop := ∃ (l : List KV) (k v : Int), l.length <= 8 /\ (0 <= k /\ k < 9) /\ (0 <= v /\ v < 99) /\ r = .tup [.one (.own 1), .one (.dat (.int .i64 k)), .one (.dat (.int .i64 v))] /\ xs = [.vec 2 true (l.map encKV)]
def Rcmds (r : AV) (xs : List AObj) : Prop := ∃ (l : List KV) (cs : List Cmd), l.length <= 8 /\ cs.length <= 6 /\ r = .tup [.one (.own 1), .one (.own 2)] /\ xs = [.vec 2 true (l.map encKV), .vec 3 true (cs.map encCmd)]
theorem c46 (b : List Int) (hb : BytesL b) (i : Nat) (h : Int) (hi : i <= b.length) : CtrC prog 46 [.one (.ptr (.own 1 0 0))] [.box [.dat (.sl 1 (b.map encB)), .dat (.int .i64 (i : Int)), .dat (.int .i64 h)]] (Rmap b) := by
 have hmx : maxLen = 9223372036854775807 := rfl
 refine CtrC.body mixed func46 rfl (fun bl => ?_) ?_
 ·refine evl ?_
  refine scs ?_
  refine CallK_cell [1] e47 (c47 b hb i h hi 6 (by decide)) rfl rfl ?_
  rintro r0 xs' ⟨n0, ⟨hn0, hn1, _⟩, rfl, i1, h1, hi1, rfl⟩ -
  have hn5 := hn1 (by decide)
  refine evl ?_
  refine scs ?_
  refine LoopK_intro (fun zn zs => ∃ (n : Int) (l : List KV) (i : Nat) (h : Int), zn = n.toNat /\ (0 <= n /\ n + l.length <= 5 /\ i <= b.length) /\ zs = mkSt [(4, .one (.dat (.int .i64 n))), (3, .one (.own 2)), (0, .one (.ptr (.own 1 0 0)))] [.ballast bl, .box [.dat (.sl 1 (b.map encB)), .dat (.int .i64 (i : Int)), .dat (.int .i64 h)], .vec 2 true (l.map encKV)]) _ _
   (Ent.wk [0, 1, 2]) ⟨n0, [], i1, h1, rfl, ⟨hn0, by simp; omega, hi1⟩, rfl⟩ ?_
  rintro zn zs ⟨n, l, i, h, rfl, hinv, rfl⟩ K hK
  obtain ⟨hv1, hv2, hv3⟩ := hinv
  refine evl ?_
  constructor <;> intro hq
  ·have hn : 0 < n := of_decide_eq_true hq
   have hw : IntKind.i64.wrap (n - 1) = n - 1 := wrap_id (by omega) (by omega)
   refine CallK_cell [1] e47 (c47 b hb i h hv3 8 (by decide)) rfl rfl ?_
   rintro r0 xs' ⟨x, _, rfl, i2, h2, hi2, rfl⟩ -
   refine evl ?_
   refine scs ?_
   refine CallK_cell [1] e47 (c47 b hb i2 h2 hi2 999 (by decide)) rfl rfl ?_
   rintro r0 xs' ⟨y, _, rfl, i3, h3, hi3, rfl⟩ -
   refine evl ?_
   refine scs ?_
   refine CallK_cell [1, 3] e71 (c71 b hb i3 h3 hi3 [0, 65535, y] (by simp) (by simp)) rfl rfl ?_
   rintro r0 xs' ⟨z, _, rfl, i4, h4, hi4, rfl⟩ -
   refine evl ?_
   refine scs ?_
   refine ck e32 (c32 l (by omega) x z) rfl ?_
   refine sv0 ?_
   refine scs ?_
   (apply hK
    exact ⟨_, _, by omega, Ent.wk [0, 1, 4], n - 1, mapPut l x z, i4, h4, rfl, ⟨by omega, by have := mapPut_len l x z; omega, hi4⟩, rfl⟩)
  apply hK
  have hnn : n = 0 := by have := of_decide_eq_false hq; omega
  have hll : l.length <= 5 := by omega
  rcases Nat.eq_zero_or_pos l.length with hl0 | hl0
  ·have hd : decide ((0 : Int) < (l.length : Int)) = false := decide_eq_false (by omega)
   simp (maxSteps := 2000000) only [go_sem, seval, hd]
   first | refine CCallK_of (.one (.dat (.bool false))) ?_ | refine CCallK_og (.one (.dat (.bool false))) ?_
   refine sv2 ?_
   refine FinCN.nt results46 [1, 2] (.one (.own 2)) [.box [.dat (.sl 1 (b.map encB)), .dat (.int .i64 (i : Int)), .dat (.int .i64 h)], .vec 2 true (l.map encKV)] (⟨l, by omega, rfl, i, h, hv3, rfl⟩) ?_ ?_ ?_ <;> try trivial
   all_goals exact entd
  have hd : decide ((0 : Int) < (l.length : Int)) = true := decide_eq_true (by omega)
  simp (maxSteps := 2000000) only [go_sem, seval, hd]
  refine .inr (.inl ?_)
  refine CallK_cell [1] e72 (c72 b hb i h hv3 12 (by decide)) rfl rfl ?_
  rintro r0 xs' ⟨x, rfl, i2, h2, hi2, rfl⟩ -
  refine sv2 ?_
  refine scs ?_
  constructor <;> intro hx
  ·refine CallK_cell [1] e47 (c47 b hb i2 h2 hi2 (l.length : Int) (by omega)) rfl rfl ?_
   rintro r0 xs' ⟨k0, ⟨hk0, hk1, _⟩, rfl, i3, h3, hi3, rfl⟩ -
   obtain ⟨k, rfl⟩ : ∃ k : Nat, k0 = (k : Int) := ⟨k0.toNat, by omega⟩
   have hk : k < l.length := by have := hk1 (by omega); omega
   refine sv2 ?_
   refine scs ?_
   refine CallK_cell [1] e47 (c47 b hb i3 h3 hi3 3 (by decide)) rfl rfl ?_
   rintro r0 xs' ⟨s, _, rfl, i4, h4, hi4, rfl⟩ -
   refine sv2 ?_
   refine scs ?_
   constructor <;> intro hs
   ·refine scs ?_
    refine CallK_cell [1, 3] e71 (c71 b hb i4 h4 hi4 [-1, 100, 99] (by simp) (by simp)) rfl rfl ?_
    rintro r0 xs' ⟨z, _, rfl, i5, h5, hi5, rfl⟩ -
    refine sv4 ?_
    refine scs ?_
    refine FinCN.nt results46 [1, 2] (.one (.own 2)) [.box [.dat (.sl 1 (b.map encB)), .dat (.int .i64 (i5 : Int)), .dat (.int .i64 h5)], .vec 2 true ((l.set k ⟨z, l[k].Val⟩).map encKV)] (⟨_, by rw [List.length_set]; omega, rfl, i5, h5, hi5, rfl⟩) ?_ ?_ ?_ <;> try trivial
    all_goals simp [objsLe, find, St.obj, AObj.renF, Leaf.renF, List.map_set, encKV]
   constructor <;> intro hs
   ·refine scs ?_
    refine CallK_cell [1, 3] e71 (c71 b hb i4 h4 hi4 [-1, 65536] (by simp) (by simp)) rfl rfl ?_
    rintro r0 xs' ⟨z, _, rfl, i5, h5, hi5, rfl⟩ -
    refine sv4 ?_
    refine scs ?_
    refine FinCN.nt results46 [1, 2] (.one (.own 2)) [.box [.dat (.sl 1 (b.map encB)), .dat (.int .i64 (i5 : Int)), .dat (.int .i64 h5)], .vec 2 true ((l.set k ⟨l[k].Key, z⟩).map encKV)] (⟨_, by rw [List.length_set]; omega, rfl, i5, h5, hi5, rfl⟩) ?_ ?_ ?_ <;> try trivial
    all_goals simp [objsLe, find, St.obj, AObj.renF, Leaf.renF, List.map_set, encKV]
   refine sv4 ?_
   refine scs ?_
   trace_state
   refine FinCN.nt results46 [1, 4] (.one (.own 2)) [.box [.dat (.sl 1 (b.map encB)), .dat (.int .i64 (i4 : Int)), .dat (.int .i64 h4)], .vec 2 true ((l ++ [l[k]]).map encKV)] (⟨_, by simp; omega, rfl, i4, h4, hi4, rfl⟩) ?_ ?_ ?_ <;> try trivial
   all_goals simp [objsLe, find, St.obj, AObj.renF, Leaf.renF, encKV]
  refine FinCN.nt results46 [1, 2] (.one (.own 2)) [.box [.dat (.sl 1 (b.map encB)), .dat (.int .i64 (i2 : Int)), .dat (.int .i64 h2)], .vec 2 true (l.map encKV)] (⟨l, by omega, rfl, i2, h2, hi2, rfl⟩) ?_ ?_ ?_ <;> try trivial
  all_goals exact entd
 ·exact ⟨_, _, ⟨[], by simp, rfl, 0, 0, Nat.zero_le _, rfl⟩, by simp⟩
theorem c16 (b : List Int) (hl : b.length <= maxLen) : Ctr prog 16 [.one (.dat (.sl 1 (b.map encB)))] [] (.one (.dat (.bool (decide ((1048576 : Int) < (b.length : Int)))))) [] := by
 refine Ctr.bd mixed func16 rfl ?_
 refine sv2 ?_
 refine scs ?_
 refine Fin.nt results16 [] ?_ ?_ ?_ <;> try trivial
theorem c76 (b : List Int) (hb : BytesL b) (i : Nat) (h : Int) (hi : i <= b.length) : CtrC prog 76 [.one (.ptr (.own 1 0 0))] [.box [.dat (.sl 1 (b.map encB)), .dat (.int .i64 (i : Int)), .dat (.int .i64 h)]] (Rcmd b) := by
 refine CtrC.body mixed func76 rfl (fun bl => ?_) ?_
 ·refine evl ?_
  refine scs ?_
  refine CallK_cell [1, 3] e71 (c71 b hb i h hi [1, 1, 2, 2, 3, 4, 4] (by simp) (by simp)) rfl rfl ?_
  rintro r0 xs' ⟨z, _, rfl, i1, h1, hi1, rfl⟩ -
  refine evl ?_
  refine scs ?_
  refine CallK_cell [1] e47 (c47 b hb i1 h1 hi1 6 (by decide)) rfl rfl ?_
  rintro r0 xs' ⟨k, _, rfl, i2, h2, hi2, rfl⟩ -
  refine evl ?_
  refine scs ?_
  constructor <;> intro hq
  ·refine CallK_cell [1] e47 (c47 b hb i2 h2 hi2 60000 (by decide)) rfl rfl ?_
   rintro r0 xs' ⟨y, _, rfl, i3, h3, hi3, rfl⟩ -
   refine evl ?_
   refine scs ?_
   refine CallK_cell [1, 5] e71 (c71 b hb i3 h3 hi3 [1, 65535, y] (by simp) (by simp)) rfl rfl ?_
   rintro r0 xs' ⟨v, _, rfl, i4, h4, hi4, rfl⟩ -
   refine evl ?_
   refine scs ?_
   (refine FinCN.nd results76 [1] ?_ ?_ <;> try trivial); (refine sv3 ?_); exact ⟨⟨z, k, v⟩, rfl, i4, h4, hi4, rfl⟩
  ·trace_state
   (refine FinCN.nd results76 [1] ?_ ?_ <;> try trivial); (refine sv3 ?_); exact ⟨⟨z, k, 0⟩, rfl, i2, h2, hi2, rfl⟩
 ·exact ⟨_, _, ⟨⟨0, 0, 0⟩, rfl, 0, 0, Nat.zero_le _, rfl⟩, by simp [encCmd]⟩
def atM (b : List Int) (k : Int) : Int := if k < b.length then b.getD k.toNat 0 else (k * 37 + b.length * 11) % 256
theorem atM_b {b : List Int} (hb : BytesL b) {k : Int} (h0 : 0 <= k) : 0 <= atM b k /\ atM b k <= 255 := by
 unfold atM
 split
 ·have hk : k.toNat < b.length := by omega
  rw [List.getD_eq_getElem?_getD, List.getElem?_eq_getElem hk]
  exact hb.2 _ (List.getElem_mem hk)
 ·omega
theorem c29 (b : List Int) (hb : BytesL b) (k : Int) (h0 : 0 <= k) (h1 : k <= 1000000) : Ctr prog 29 [.one (.dat (.sl 1 (b.map encB))), .one (.dat (.int .i64 k))] [] (.one (.dat (.int .i64 (atM b k)))) [] := by
 have hmx : maxLen = 9223372036854775807 := rfl
 have hbl := hb.1
 refine Ctr.bd mixed func29 rfl ?_
 refine sv2 ?_
 refine scs ?_
 constructor <;> intro hq
 ·have hq := of_decide_eq_true hq
  obtain ⟨n, rfl⟩ : ∃ n : Nat, k = (n : Int) := ⟨k.toNat, by omega⟩
  have hn : n < b.length := by omega
  have he : atM b n = b[n] := by unfold atM; rw [if_pos hq]; simp [hn]
  have hw : IntKind.i64.wrap b[n] = b[n] := by have := hb.2 _ (List.getElem_mem hn); exact wrap_id (by omega) (by omega)
  simp (maxSteps := 2000000) only [go_sem, seval, getD_map hn, encB]
  refine scs ?_
  refine Fin.nt results29 [] ?_ ?_ ?_ <;> try trivial
  (refine rsl ?_; try exact .intro)
  rw [he, hw]
 ·have hq := of_decide_eq_false hq
  have he : atM b k = (k * 37 + b.length * 11).tmod 256 := by unfold atM; rw [if_neg hq, Int.tmod_eq_emod_of_nonneg (by omega)]
  have hw1 : IntKind.i64.wrap (k * 37) = k * 37 := wrap_id (by omega) (by omega)
  have hw2 : IntKind.i64.wrap ((b.length : Int) * 11) = (b.length : Int) * 11 := wrap_id (by omega) (by omega)
  have hw3 : IntKind.i64.wrap (k * 37 + (b.length : Int) * 11) = k * 37 + (b.length : Int) * 11 := wrap_id (by omega) (by omega)
  refine Fin.nt results29 [] ?_ ?_ ?_ <;> try trivial
  (refine rsl ?_; try exact .intro)
  rw [he, hw1, hw2, hw3]
theorem c56 (b : List Int) (hb : BytesL b) (i : Nat) (h : Int) (hi : i <= b.length) : CtrC prog 56 [.one (.ptr (.own 1 0 0))] [.box [.dat (.sl 1 (b.map encB)), .dat (.int .i64 (i : Int)), .dat (.int .i64 h)]] (Rcmd b) := by
 refine CtrC.body mixed func56 rfl (fun bl => ?_) ?_
 ·refine evl ?_
  refine scs ?_
  refine CallK_cell [1] e76 (c76 b hb i h hi) rfl rfl ?_
  rintro r0 xs' ⟨⟨z, k, v⟩, rfl, i1, h1, hi1, rfl⟩ -
  simp (maxSteps := 2000000) only [go_sem, seval, encCmd]
  refine scs ?_
  refine CallK_cell [1] e47 (c47 b hb i1 h1 hi1 14 (by decide)) rfl rfl ?_
  rintro r0 xs' ⟨x, _, rfl, i2, h2, hi2, rfl⟩ -
  refine evl ?_
  refine scs ?_
  constructor <;> intro hq
  ·refine scs ?_
   refine CallK_cell [1, 4] e71 (c71 b hb i2 h2 hi2 [0, 5] (by simp) (by simp)) rfl rfl ?_
   rintro r0 xs' ⟨w, _, rfl, i3, h3, hi3, rfl⟩ -
   refine evl ?_
   refine scs ?_
   (refine FinCN.nd results56 [1] ?_ ?_ <;> try trivial); (refine sv3 ?_); exact ⟨⟨w, k, v⟩, rfl, i3, h3, hi3, rfl⟩
  constructor <;> intro hq
  ·refine scs ?_
   refine CallK_cell [1, 4] e71 (c71 b hb i2 h2 hi2 [-1, 99, 100] (by simp) (by simp)) rfl rfl ?_
   rintro r0 xs' ⟨w, _, rfl, i3, h3, hi3, rfl⟩ -
   refine evl ?_
   refine scs ?_
   (refine FinCN.nd results56 [1] ?_ ?_ <;> try trivial); (refine sv3 ?_); exact ⟨⟨z, w, v⟩, rfl, i3, h3, hi3, rfl⟩
  constructor <;> intro hq
  ·refine scs ?_
   refine CallK_cell [1, 4] e71 (c71 b hb i2 h2 hi2 [-1, 65536, 1, 0] (by simp) (by simp)) rfl rfl ?_
   rintro r0 xs' ⟨w, _, rfl, i3, h3, hi3, rfl⟩ -
   refine evl ?_
   refine scs ?_
   (refine FinCN.nd results56 [1] ?_ ?_ <;> try trivial); (refine sv3 ?_); exact ⟨⟨z, k, w⟩, rfl, i3, h3, hi3, rfl⟩
  (refine FinCN.nd results56 [1] ?_ ?_ <;> try trivial); (refine sv3 ?_); exact ⟨⟨z, k, v⟩, rfl, i2, h2, hi2, rfl⟩
 ·exact ⟨_, _, ⟨⟨0, 0, 0⟩, rfl, 0, 0, Nat.zero_le _, rfl⟩, by simp [encCmd]⟩
theorem c24 (b : List Int) (hb : BytesL b) : CtrC prog 24 [.one (.dat (.sl 1 (b.map encB)))] [] Rcmds := by
 refine CtrC.body mixed func24 rfl (fun bl => ?_) ?_
 ·refine evl ?_
  refine scs ?_
  refine CallK_cell [] e45 (c45 b hb) rfl rfl ?_
  rintro r0 xs' ⟨h, rfl, rfl⟩ -
  refine evl ?_
  refine scs ?_
  refine CallK_cell [1] e47 (c47 b hb 0 h (Nat.zero_le _) 7 (by decide)) rfl rfl ?_
  rintro r0 xs' ⟨n0, ⟨hn0, hn1, _⟩, rfl, i1, h1, hi1, rfl⟩ -
  have hn7 := hn1 (by decide)
  refine evl ?_
  refine scs ?_
  refine LoopK_intro (fun zn zs => ∃ (n : Int) (l : List Cmd) (i : Nat) (h : Int), zn = n.toNat /\ (0 <= n /\ n + l.length <= 6 /\ i <= b.length) /\ zs = mkSt [(4, .one (.ptr (.own 1 0 0))), (5, .one (.own 2)), (6, .one (.dat (.int .i64 n))), (0, .one (.dat (.sl 1 (b.map encB))))] [.ballast bl, .box [.dat (.sl 1 (b.map encB)), .dat (.int .i64 (i : Int)), .dat (.int .i64 h)], .vec 3 true (l.map encCmd)]) _ _
   (Ent.wk [0, 1, 2]) ⟨n0, [], i1, h1, rfl, ⟨hn0, by simp; omega, hi1⟩, rfl⟩ ?_
  rintro zn zs ⟨n, l, i, h, rfl, hinv, rfl⟩ K hK
  obtain ⟨hv1, hv2, hv3⟩ := hinv
  refine evl ?_
  constructor <;> intro hq
  ·have hn : 0 < n := of_decide_eq_true hq
   have hw : IntKind.i64.wrap (n - 1) = n - 1 := wrap_id (by omega) (by omega)
   refine CallK_cell [1] e56 (c56 b hb i h hv3) rfl rfl ?_
   rintro r0 xs' ⟨c, rfl, i2, h2, hi2, rfl⟩ -
   simp (maxSteps := 2000000) only [go_sem, seval, hw, encCmd]
   refine scs ?_
   (apply hK
    exact ⟨_, _, by omega, Ent.wk [0, 1, 4], n - 1, l ++ [c], i2, h2, rfl, ⟨by omega, by simp; omega, hi2⟩, rfl⟩)
  apply hK
  have hnn : n = 0 := by have := of_decide_eq_false hq; omega
  refine evl ?_
  refine scs ?_
  refine CallK_cell [1] e46 (c46 b hb i h hv3) rfl rfl ?_
  rintro r0 xs' ⟨m, hm, rfl, i3, h3, hi3, rfl⟩ -
  refine evl ?_
  refine scs ?_
  refine FinCN.nt results24 [3, 2] (.tup [.one (.own 1), .one (.own 2)]) [.vec 2 true (m.map encKV), .vec 3 true (l.map encCmd)] (⟨m, l, hm, by omega, rfl, rfl⟩) ?_ ?_ ?_ <;> try trivial
  all_goals exact entd
 ·exact ⟨_, _, ⟨[], [], by simp, by simp, rfl, rfl⟩, by simp⟩
theorem c34 (l : List Int) (hl : l.length <= maxLen) (k : Int) : Ctr prog 34 [.one (.dat (.sl 1 (l.map encI))), .one (.dat (.int .i64 k))] [] (.one (.dat (.bool (decide (k ∈ l))))) [] := by
 refine Ctr.bd mixed func34 rfl ?_
 refine evl ?_
 refine LoopK_intro (fun zn zs => ∃ i : Nat, i <= l.length /\ zn = l.length - i /\ (∀ x ∈ l.take i, x ≠ k) /\ zs = mkSt [(5, .one (.dat (.int .i64 i))), (0, .one (.dat (.sl 1 (l.map encI)))), (1, .one (.dat (.int .i64 k)))] []) (l.length) _
  (Ent.wk []) ⟨0, by omega, by omega, by simp, rfl⟩ ?_
 rintro zn zs ⟨i, hi, rfl, hinv, rfl⟩ K hK
 rcases Nat.lt_or_ge i (l.length) with hlt | hge
 ·have hdi : decide ((i : Int) < ((l.length : Nat) : Int)) = true := decide_eq_true (by omega)
  have hw := wrap_succ hlt hl
  simp (maxSteps := 2000000) only [go_sem, seval, hdi, getD_map hlt, encI, hw]
  refine ⟨⟨by omega, by omega⟩, hlt, fun hq => ?_, fun hq => ?_⟩
  ·apply hK
   refine evl ?_
   refine Fin.nt results34 [] ?_ ?_ ?_ <;> try trivial
   (refine rsl ?_; try exact .intro)
   have := List.getElem_mem hlt
   have hq : l[i] = k := by simpa using hq
   rw [hq] at this
   exact (decide_eq_true this).symm
  ·have hq : l[i] ≠ k := by simpa using hq
   have hn : ∀ x ∈ l.take (i + 1), x ≠ k := fun x hx => by
    rw [List.take_succ_eq_append_getElem hlt] at hx
    rcases List.mem_append.1 hx with hx | hx
    ·exact hinv x hx
    ·rw [List.mem_singleton.1 hx]; exact hq
   (apply hK
    exact ⟨l.length - (i + 1), _, by omega, Ent.wk [], i + 1, by omega, rfl, hn, rfl⟩)
 ·have hge' : l.length = i := by omega
  subst hge'
  have hdi : decide (((l.length : Nat) : Int) < ((l.length : Nat) : Int)) = false := by simp
  refine sv1 ?_
  apply hK
  refine evl ?_
  refine Fin.nt results34 [] ?_ ?_ ?_ <;> try trivial
  (refine rsl ?_; try exact .intro)
  rw [List.take_length] at hinv
  exact (decide_eq_false fun h => hinv k h rfl).symm
end Go.Proofs.Ytppbonemkipgeaa.Mod
