/- FnExactReadBatch: the program answers as the statement says, at every argument. -/
import Derived.Test.YtmgemgeeoconbaaDoorRows
import Derived.Test.YtmgemgeeoconbaaDoorGTy
import Derived.Test.YtmgemgeeoconbaaDoorAbsTac
import Derived.Test.YtmgemgeeoconbaaDoorAbsData
import Derived.Test.YtmgemgeeoconbaaDoorWhole
import Derived.Test.YtmgemgeeoconbaaDoorLaidT
import Derived.Test.YtmgemgeeoconbaaDoorLaidR
import Derived.Test.YtmgemgeeoconbaaDoorAbsCard
import Derived.Test.YtmgemgeeoconbaaDoorCards
import Derived.Test.YtmgemgeeoconbaaDoorTie
import Derived.Test.YtmgemgeeoconbaaDoorGBase
import Derived.Test.YtmgemgeeoconbaaDoorGNum
import Derived.Test.YtmgemgeeoconbaaDoorGFam
import Derived.Test.YtmgemgeeoconbaaDoorGFam2
import Derived.Test.YtmgemgeeoconbaaDoorGSl2
import Derived.Test.YtmgemgeeoconbaaDoorGHist
import Derived.WalkKit
import Derived.ProofKit
import Derived.OpenShut
namespace Go.Proofs.YtmgemgeeoconbaaDoor.Mod
open Go.Proofs.Tryd Go.Abs Go.Proofs.YtmgemgeeoconbaaDoor.Ty Go.ChangeShapes Go.WideShapes Go.ChangeAt Go.RowKit
set_option linter.unusedSimpArgs false
set_option linter.unusedVariables false
set_option maxHeartbeats 8000000
set_option maxRecDepth 100000
def bs (l : List UInt8) : ByteArray := ⟨l.toArray⟩
theorem bs_app (a b : List UInt8) : bs a ++ bs b = bs (a ++ b) := by apply ByteArray.ext; simp [bs]
theorem bs_size (a : List UInt8) : (bs a).size = a.length := by simp [bs, ByteArray.size]
def itoaB (n : Int) : ByteArray := bs (Lib.itoa n)
theorem itoaB_size {n : Int} (h0 : -9223372036854775808 <= n) (h1 : n <= 9223372036854775807) : (itoaB n).size <= 21 := by
 unfold itoaB; rw [bs_size]; exact Lib.itoa_length_le n h0 h1
def digs (m : Nat) : List UInt8 := if m = 0 then [] else Lib.decDigits m
theorem digs_step {m : Nat} (h : m ≠ 0) : digs m = digs (m / 10) ++ [UInt8.ofNat (48 + m % 10)] := by
 unfold digs
 rw [if_neg h]
 by_cases h9 : m < 10
 ·rw [if_pos (by omega), Lib.decDigits, dif_pos h9, Nat.mod_eq_of_lt h9]; rfl
 ·rw [if_neg (by omega), Lib.decDigits, dif_neg h9]
theorem itoa_digs {n : Int} (h : n ≠ 0) : Lib.itoa n = if n < 0 then 45 :: digs n.natAbs else digs n.natAbs := by
 unfold Lib.itoa digs
 have h0 : ¬ n.natAbs = 0 := by omega
 by_cases hn : n < 0
 ·simp only [hn, if_true, h0, if_false]
 ·simp only [hn, h0, if_false]; rw [show n.toNat = n.natAbs by omega]
theorem tmod10 (x : Int) : x.tmod 10 = if x < 0 then -((x.natAbs % 10 : Nat) : Int) else ((x.natAbs % 10 : Nat) : Int) := by
 by_cases h : x < 0
 ·rw [if_pos h]
  obtain ⟨m, rfl⟩ : ∃ m : Nat, x = -(m : Int) := ⟨x.natAbs, by omega⟩
  rw [Int.neg_tmod, Int.natAbs_neg, Int.natAbs_natCast]; rfl
 ·rw [if_neg h]
  obtain ⟨m, rfl⟩ : ∃ m : Nat, x = (m : Int) := ⟨x.natAbs, by omega⟩
  rfl
theorem tdiv10 (x : Int) : (x.tdiv 10).natAbs = x.natAbs / 10 := by rw [Int.natAbs_tdiv]; rfl
theorem bytesOf_one (k : Nat) : bytesOf [(k : Int)] = bs [UInt8.ofNat k] := rfl
theorem itoaB_zero : itoaB 0 = ⟨#[48]⟩ := by
 unfold itoaB Lib.itoa bs
 rw [if_neg (by decide), show (0 : Int).toNat = 0 from rfl, Lib.decDigits, dif_pos (by decide)]; rfl
def decsB (l : List Int) : ByteArray := bs (l.flatMap fun n => 32 :: Lib.itoa n)
theorem decsB_snoc (l : List Int) (n : Int) : decsB (l ++ [n]) = decsB l ++ (⟨#[32]⟩ ++ itoaB n) := by
 unfold decsB itoaB
 rw [show (⟨#[32]⟩ : ByteArray) = bs [32] from rfl, bs_app, bs_app, List.flatMap_append]; simp
def inI (n : Int) : Prop := -9223372036854775808 <= n /\ n <= 9223372036854775807
theorem decsB_size : ∀ {l : List Int}, (∀ n ∈ l, inI n) -> (decsB l).size <= 22 * l.length
 | [], _ => by simp [decsB, bs_size]
 | x :: l, h => by
  have h1 := decsB_size (l := l) fun n hn => h n (by simp [hn])
  have h2 := Lib.itoa_length_le x (h x (by simp)).1 (h x (by simp)).2
  unfold decsB at h1 ⊢
  rw [bs_size] at h1 ⊢
  rw [List.flatMap_cons, List.length_append, List.length_cons, List.length_cons]; omega
theorem Ctr.itoa {P : Program} {ρ : Go.Shelf.Ren} (L : Go.Proofs.LaysM.n171 P ρ) (htab : ∀ w X, GlobOk w X -> Lib.TabIs P w "internal/strconv.uint64pow10" .u64 Lib.pow10Tab) (n : Int) (h0 : -9223372036854775808 <= n) (h1 : n <= 9223372036854775807) :
  Ctr P (ρ.f 171) [.one (.dat (.int .i64 n))] [] (.one (.dat (.str ⟨(Lib.itoa n).toArray⟩))) [] where
 clean := rfl
 sep := by simp
 len := Nat.le_refl _
 comp := fun o ho => by simp at ho
 calls := fun w β φ vs hor ha => by
  obtain ⟨g1, g2⟩ := ha
  obtain ⟨v, hv, S, hr, _⟩ := g2 0 _ rfl
  cases hr
  have hvs : vs = #[.int .i64 n] := by
   apply Array.ext_getElem?
   intro i
   match i with
   | 0 => exact hv
   | i + 1 => rw [Array.getElem?_eq_none (by rw [g1]; simp), Array.getElem?_eq_none (by simp)]
  subst hvs
  have hφ : ∀ o, φ o = [] := fun o => by
   have := hor.objs o
   unfold ObjRel at this
   rw [show (lctx w β φ []).ob o = .dead by simp [lctx, Objs]] at this
   exact this
  refine (Go.Proofs.Any.strconv_Itoa L n h0 h1 w (htab w _ hor.glob)).mono ?_
  rintro e w' ⟨rfl, k, os, rfl⟩
  have FR : Frm w (fun b => ∃ o, b ∈ φ o) (Go.Sort.grow (w.drewN k) os) :=
   ⟨rfl, rfl, rfl, by simp, fun b hb hx => Go.Sort.heap_grow_old _ _ hb⟩
  exact ⟨_, β, φ, rfl, ⟨fun o => by unfold ObjRel; rw [show (lctx (Go.Sort.grow (w.drewN k) os) β φ []).ob o = .dead by simp [lctx, Objs]]; exact hφ o, hor.nodup, hor.disj, fun o b hb => (by rw [hφ] at hb; cases hb), hor.glob.frm FR fun b hb => .inl hb⟩,
   fun _ _ => rfl, fun o b hb => .inr ⟨o, hb⟩, ⟨[], .str _, by simp⟩, FR⟩
theorem intsRep {w : World} : ∀ {k : IntKind} {ns : List Int} {vs : List Value} {S : List Nat}, RepL w (ns.map (D.int k)) vs S -> vs = ns.map (Value.int k)
 | _, [], _, _, h => by cases h; rfl
 | k, n :: ns, _, _, h => by
  cases h with
  | cons h1 h2 =>
   cases h1
   rw [intsRep h2]; rfl
theorem pow10_is (w : World) (X : Nat -> Prop) (h : GlobOk w X) : Lib.TabIs prog w "internal/strconv.uint64pow10" .u64 Lib.pow10Tab := by
 obtain ⟨_, _, cs, T, fr, h1, h2⟩ := h (6, .rows 20 pow10T) (by simp [tabs])
 unfold Lib.TabIs World.var?
 rw [show prog.globalNamed "internal/strconv.uint64pow10" = some 6 by kernel_rfl, Option.bind_some, h1]
 have h3 := intsRep (k := .u64) (ns := Lib.pow10Tab) h2
 show some cs = _
 rw [<- h3]
theorem c64 (n : Int) (h0 : -9223372036854775808 <= n) (h1 : n <= 9223372036854775807) : Ctr prog 64 [.one (.dat (.int .i64 n))] [] (.one (.dat (.str (itoaB n)))) [] :=
 Ctr.itoa YtmgemgeeoconbaaDoor.lays171 pow10_is n h0 h1
theorem c55 (n : Int) (h0 : -9223372036854775808 <= n) (h1 : n <= 9223372036854775807) : Ctr prog 55 [.one (.dat (.int .i64 n))] [] (.one (.dat (.str (itoaB n)))) [] := by
 refine Ctr.bd mixed func55 rfl ?_
 refine evl ?_
 refine ck e64 (c64 n h0 h1) rfl ?_
 refine evl ?_
 refine Fin.nt results55 [] ?_ ?_ ?_ <;> try trivial
theorem c33 (l : List Int) (hl : l.length <= 1048576) (hb : ∀ n ∈ l, inI n) : Ctr prog 33 [.one (.dat (.sl 1 (l.map encI)))] [] (.one (.dat (.str (decsB l)))) [] := by
 have hmx : maxLen = 9223372036854775807 := rfl
 refine Ctr.bd mixed func33 rfl ?_
 refine evl ?_
 refine scs ?_
 refine LoopK_intro (fun zn zs => ∃ (i : Nat) (o : ByteArray), i <= l.length /\ zn = l.length - i /\ (o = decsB (l.take i)) /\ zs = mkSt [(8, .one (.dat (.int .i64 i))), (7, .one (.dat (.int .i64 (l.length)))), (6, .one (.dat (.sl 1 (l.map encI)))), (3, .one (.dat (.str o))), (0, .one (.dat (.sl 1 (l.map encI))))] []) (l.length) _
  (Ent.wk []) ⟨0, ⟨#[]⟩, by omega, by omega, rfl, rfl⟩ ?_
 rintro zn zs ⟨i, o, hi, rfl, hinv, rfl⟩ K hK
 rcases Nat.lt_or_ge i (l.length) with hlt | hge
 ·have hdi : decide ((i : Int) < ((l.length : Nat) : Int)) = true := decide_eq_true (by omega)
  have hw := wrap_succ hlt (le20 hl)
  have hn := hb _ (List.getElem_mem hlt)
  have hz := itoaB_size hn.1 hn.2
  have hz2 := decsB_size (l := l.take i) fun n hn => hb n (List.mem_of_mem_take hn)
  rw [<- hinv, List.length_take] at hz2
  have hz3 : ((⟨#[32]⟩ : ByteArray) ++ itoaB l[i]).size <= 22 := by rw [ByteArray.size_append]; show 1 + _ <= _; omega
  simp (maxSteps := 2000000) only [go_sem, seval, hdi, hw, getD_map hlt, encI]
  refine scs ?_
  refine ck e55 (c55 l[i] hn.1 hn.2) rfl ?_
  refine sv0 ?_
  refine scs ?_
  (apply hK
   exact ⟨l.length - (i + 1), _, by omega, Ent.wk [], i + 1, (o ++ (⟨#[32]⟩ ++ itoaB l[i])), by omega, rfl, by rw [hinv, <- decsB_snoc, <- List.take_succ_eq_append_getElem hlt], rfl⟩)
 ·have hge' : l.length = i := by omega
  subst hge'
  have hdi : decide (((l.length : Nat) : Int) < ((l.length : Nat) : Int)) = false := by simp
  refine sv2 ?_
  apply hK
  refine evl ?_
  refine Fin.nt results33 [] ?_ ?_ ?_ <;> try trivial
  (refine rsl ?_; try exact .intro)
  rw [hinv, List.take_length]
theorem c31 (n : Int) (h0 : -9223372036854775808 <= n) (h1 : n <= 9223372036854775807) : Ctr prog 31 [.one (.dat (.int .i64 n))] [] (.one (.dat (.str (itoaB n)))) [] := by
 have hmx : maxLen = 9223372036854775807 := rfl
 by_cases hz : n = 0
 ·subst hz
  refine Ctr.bd mixed func31 rfl ?_
  refine evl ?_
  refine Fin.nt results31 [] ?_ ?_ ?_ <;> try trivial
  (refine rsl ?_; try exact .intro)
  exact itoaB_zero.symm
 have hz1 : (n == 0) = false := by simpa using hz
 refine Ctr.bd mixed func31 rfl ?_
 simp (maxSteps := 2000000) only [go_sem, seval, hz1]
 refine LoopK_intro (fun zn zs => ∃ (x : Int) (o : List UInt8), zn = x.natAbs /\ (-9223372036854775808 <= x /\ x <= 9223372036854775807 /\ digs x.natAbs ++ o = digs n.natAbs) /\ zs = mkSt [(0, .one (.dat (.int .i64 x))), (3, .one (.dat (.str (bs o)))), (4, .one (.dat (.bool (decide (n < 0)))))] []) _ _
  (Ent.wk []) ⟨n, [], rfl, ⟨h0, h1, List.append_nil _⟩, rfl⟩ ?_
 rintro zn zs ⟨x, o, rfl, hinv, rfl⟩ K hK
 obtain ⟨i1, i2, i3⟩ := hinv
 have hol : o.length <= 21 := by
  have h2 := Lib.itoa_length_le n h0 h1
  rw [itoa_digs hz, <- i3] at h2
  split at h2 <;> simp at h2 <;> omega
 by_cases hx : x = 0
 ·subst hx
  have hd : ((0 : Int) != 0) = false := rfl
  refine sv3 ?_
  apply hK
  have ho : o = digs n.natAbs := i3
  have hfin := itoa_digs hz
  rw [<- ho] at hfin
  cases hn : decide (n < 0) with
  | true =>
   rw [if_pos (of_decide_eq_true hn)] at hfin
   simp (maxSteps := 2000000) only [go_sem, seval, hn, bs_size]
   refine scs ?_
   refine Fin.nt results31 [] ?_ ?_ ?_ <;> try trivial
   (refine rsl ?_; try exact .intro)
   unfold itoaB
   rw [hfin, show (⟨#[45]⟩ : ByteArray) = bs [45] from rfl, bs_app]; rfl
  | false =>
   rw [if_neg (of_decide_eq_false hn)] at hfin
   simp (maxSteps := 2000000) only [go_sem, seval, hn]
   refine Fin.nt results31 [] ?_ ?_ ?_ <;> try trivial
   (refine rsl ?_; try exact .intro)
   unfold itoaB
   rw [hfin]
 ·have hd : (x != 0) = true := by simpa using hx
  have ht := tmod10 x
  have hv := tdiv10 x
  have hvw : IntKind.i64.wrap (x.tdiv 10) = x.tdiv 10 := wrap_id (by omega) (by omega)
  have hm9 : x.natAbs % 10 < 10 := Nat.mod_lt _ (by decide)
  have hw2 : IntKind.i64.wrap (48 + ((x.natAbs % 10 : Nat) : Int)) = ((48 + x.natAbs % 10 : Nat) : Int) := by rw [wrap_id (by omega) (by omega)]; omega
  have hw3 : IntKind.u8.wrap ((48 + x.natAbs % 10 : Nat) : Int) = ((48 + x.natAbs % 10 : Nat) : Int) := by
   show ((48 + x.natAbs % 10 : Nat) : Int) % 256 = _
   omega
  have hb := bytesOf_one (48 + x.natAbs % 10)
  have hnx : digs (x.tdiv 10).natAbs ++ ([UInt8.ofNat (48 + x.natAbs % 10)] ++ o) = digs n.natAbs := by
   rw [hv, <- i3, <- List.append_assoc, <- digs_step (by omega)]
  by_cases hs : x.tmod 10 < 0
  ·have hd1 : decide (x.tmod 10 < 0) = true := decide_eq_true hs
   have hw1 : IntKind.i64.wrap (0 - x.tmod 10) = ((x.natAbs % 10 : Nat) : Int) := by
    rw [ht] at hs ⊢
    split at hs
    ·rename_i hx0; rw [if_pos hx0, wrap_id (by omega) (by omega)]; omega
    ·omega
   simp (maxSteps := 2000000) only [go_sem, seval, hd, hd1, hw1, hw2, hw3, hb, bs_app, hvw, bs_size, List.length_cons, List.length_nil]
   refine scs ?_
   (apply hK
    exact ⟨_, _, by omega, Ent.wk [], x.tdiv 10, ([UInt8.ofNat (48 + x.natAbs % 10)] ++ o), rfl, ⟨by omega, by omega, hnx⟩, rfl⟩)
  ·have hd1 : decide (x.tmod 10 < 0) = false := decide_eq_false hs
   have hw1 : x.tmod 10 = ((x.natAbs % 10 : Nat) : Int) := by
    rw [ht] at hs ⊢
    split at hs
    ·rename_i hx0; rw [if_pos hx0]; omega
    ·rename_i hx0; rw [if_neg hx0]
   rw [hw1] at hd1
   simp (maxSteps := 2000000) only [go_sem, seval, hd, hw1, hd1, hw2, hw3, hb, bs_app, hvw, bs_size, List.length_cons, List.length_nil]
   refine scs ?_
   (apply hK
    exact ⟨_, _, by omega, Ent.wk [], x.tdiv 10, ([UInt8.ofNat (48 + x.natAbs % 10)] ++ o), rfl, ⟨by omega, by omega, hnx⟩, rfl⟩)
def cmdW (k : Int) : ByteArray := bif k == 1 then ⟨#[103, 101, 116]⟩ else bif k == 2 then ⟨#[112, 117, 116]⟩ else bif k == 3 then ⟨#[100, 101, 108]⟩ else ⟨#[97, 100, 100]⟩
def showCmd (k x v : Int) : ByteArray := bif cmdOk k x v then (bif k == 2 || k == 4 then cmdW k ++ decsB [x, v] else cmdW k ++ decsB [x]) else ⟨#[]⟩
theorem cmdOk_in {k x v : Int} (h : cmdOk k x v = true) : (k = 1 \/ k = 2 \/ k = 3 \/ k = 4) /\ inI x /\ inI v := by
 unfold cmdOk within at h
 simp only [Bool.and_eq_true, decide_eq_true_eq, Bool.or_eq_true, beq_iff_eq] at h
 obtain ⟨⟨h1, h2⟩, h3⟩ := h
 exact ⟨by omega, ⟨by omega, by omega⟩, ⟨by omega, by omega⟩⟩
theorem decsB_one (x : Int) : decsB [x] = ⟨#[32]⟩ ++ itoaB x := by
 have := decsB_snoc [] x
 rw [show decsB [] = bs [] from rfl, show (⟨#[32]⟩ : ByteArray) = bs [32] from rfl, itoaB, bs_app, bs_app] at this
 simpa [itoaB, bs_app, show (⟨#[32]⟩ : ByteArray) = bs [32] from rfl] using this
theorem decsB_two (x y : Int) : decsB [x, y] = decsB [x] ++ (⟨#[32]⟩ ++ itoaB y) := decsB_snoc [x] y
theorem wd0 : (wordsT.getD 0 []).getD 0 default = D.str ⟨#[103, 101, 116]⟩ := rfl
theorem wd1 : (wordsT.getD 0 []).getD 1 default = D.str ⟨#[112, 117, 116]⟩ := rfl
theorem wd2 : (wordsT.getD 0 []).getD 2 default = D.str ⟨#[100, 101, 108]⟩ := rfl
theorem wd3 : (wordsT.getD 0 []).getD 3 default = D.str ⟨#[97, 100, 100]⟩ := rfl
theorem wr0 : IntKind.i64.wrap 0 = 0 := rfl
theorem wr1 : IntKind.i64.wrap 1 = 1 := rfl
theorem wr2 : IntKind.i64.wrap 2 = 2 := rfl
theorem wr3 : IntKind.i64.wrap 3 = 3 := rfl
theorem tab0 : find tabs 0 = some (.rows 4 wordsT) := rfl
theorem c11 (k x v : Int) : Ctr prog 11 [.agg [.dat (.int .i64 k), .dat (.int .i64 x), .dat (.int .i64 v)]] [] (.one (.dat (.str (showCmd k x v)))) [] := by
 refine Ctr.bd mixed func11 rfl ?_
 refine evl ?_
 refine scs ?_
 refine ck e32 (c32 ..) rfl ?_
 cases hc : cmdOk k x v with
 | false =>
  refine sv4 ?_
  refine Fin.nt results11 [] ?_ ?_ ?_ <;> try trivial
  (refine rsl ?_; try exact .intro)
  rw [showCmd, hc]; rfl
 | true =>
  obtain ⟨hk, hx, hv⟩ := cmdOk_in hc
  have h1 := c33 [x] (by simp) (by simpa using hx)
  have h2 := c33 [x, v] (by simp) (by simpa using ⟨hx, hv⟩)
  have z1 : (decsB [x]).size <= 22 := decsB_size (l := [x]) (by simpa using hx)
  have z2 : (decsB [x, v]).size <= 44 := decsB_size (l := [x, v]) (by simpa using ⟨hx, hv⟩)
  have zw : ∀ a b c : UInt8, (⟨#[a, b, c]⟩ : ByteArray).size = 3 := fun _ _ _ => rfl
  rcases hk with rfl | rfl | rfl | rfl
  ·simp (maxSteps := 2000000) only [go_sem, seval, hc, tab0, wd0, wr0]
   refine FloatR_intro [(0, []), (1, []), (2, []), (3, []), (4, []), (5, []), (6, []), (7, [0, 1, 2, 3, 4]), (8, [0, 1, 2, 3, 4]), (9, []), (10, [])] (by kernel_rfl) ?_
   refine sv5 ?_
   refine scs ?_
   refine ck e33 (h1) rfl ?_
   refine sv5 ?_
   repeat ((with_reducible show _ = true /\ _); refine ⟨by kernel_rfl, ?_⟩)
   refine scs ?_
   refine Fin.nt results11 [] ?_ ?_ ?_ <;> try trivial
   (refine rsl ?_; try exact .intro)
   rw [showCmd, hc]; rfl
  ·simp (maxSteps := 2000000) only [go_sem, seval, hc, tab0, wd1, wr1]
   refine FloatR_intro [(0, []), (1, []), (2, []), (3, []), (4, []), (5, []), (6, []), (7, []), (8, []), (9, [0, 1, 2, 3, 4]), (10, [0, 1, 2, 3, 4]), (11, []), (12, [])] (by kernel_rfl) ?_
   refine sv5 ?_
   refine scs ?_
   refine ck e33 (h2) rfl ?_
   refine sv5 ?_
   repeat ((with_reducible show _ = true /\ _); refine ⟨by kernel_rfl, ?_⟩)
   refine scs ?_
   refine Fin.nt results11 [] ?_ ?_ ?_ <;> try trivial
   (refine rsl ?_; try exact .intro)
   rw [showCmd, hc]; rfl
  ·simp (maxSteps := 2000000) only [go_sem, seval, hc, tab0, wd2, wr2]
   refine FloatR_intro [(0, []), (1, []), (2, []), (3, []), (4, []), (5, []), (6, []), (7, [0, 1, 2, 3, 4]), (8, [0, 1, 2, 3, 4]), (9, []), (10, [])] (by kernel_rfl) ?_
   refine sv5 ?_
   refine scs ?_
   refine ck e33 (h1) rfl ?_
   refine sv5 ?_
   repeat ((with_reducible show _ = true /\ _); refine ⟨by kernel_rfl, ?_⟩)
   refine scs ?_
   refine Fin.nt results11 [] ?_ ?_ ?_ <;> try trivial
   (refine rsl ?_; try exact .intro)
   rw [showCmd, hc]; rfl
  ·simp (maxSteps := 2000000) only [go_sem, seval, hc, tab0, wd3, wr3]
   refine FloatR_intro [(0, []), (1, []), (2, []), (3, []), (4, []), (5, []), (6, []), (7, []), (8, []), (9, [0, 1, 2, 3, 4]), (10, [0, 1, 2, 3, 4]), (11, []), (12, [])] (by kernel_rfl) ?_
   refine sv5 ?_
   refine scs ?_
   refine ck e33 (h2) rfl ?_
   refine sv5 ?_
   repeat ((with_reducible show _ = true /\ _); refine ⟨by kernel_rfl, ?_⟩)
   refine scs ?_
   refine Fin.nt results11 [] ?_ ?_ ?_ <;> try trivial
   (refine rsl ?_; try exact .intro)
   rw [showCmd, hc]; rfl
theorem c9 (k x v : Int) : Ctr prog 9 [.agg [.dat (.int .i64 k), .dat (.int .i64 x), .dat (.int .i64 v)]] [] (.one (.dat (.str (showCmd k x v)))) [] := by
 refine Ctr.bd mixed func9 rfl ?_
 refine evl ?_
 refine scs ?_
 refine ck e30 (c30 ..) rfl ?_
 cases hc : cmdOk k x v with
 | false =>
  refine sv4 ?_
  refine Fin.nt results9 [] ?_ ?_ ?_ <;> try trivial
  (refine rsl ?_; try exact .intro)
  rw [showCmd, hc]; rfl
 | true =>
  obtain ⟨hk, hx, hv⟩ := cmdOk_in hc
  have h1 := c31 x hx.1 hx.2
  have h2 := c31 v hv.1 hv.2
  have z1 := itoaB_size hx.1 hx.2
  have z2 := itoaB_size hv.1 hv.2
  have zw : ∀ a b c : UInt8, (⟨#[a, b, c]⟩ : ByteArray).size = 3 := fun _ _ _ => rfl
  have zs : (⟨#[32]⟩ : ByteArray).size = 1 := rfl
  rcases hk with rfl | rfl | rfl | rfl
  ·refine sv6 ?_
   repeat ((with_reducible show _ = true /\ _); refine ⟨by kernel_rfl, ?_⟩)
   refine scs ?_
   refine ck e31 (h1) rfl ?_
   refine sv6 ?_
   refine scs ?_
   refine Fin.nt results9 [] ?_ ?_ ?_ <;> try trivial
   (refine rsl ?_; try exact .intro)
   rw [showCmd, hc]
   simp [cmdW, decsB_one, ByteArray.append_assoc]
  ·refine sv7 ?_
   repeat ((with_reducible show _ = true /\ _); refine ⟨by kernel_rfl, ?_⟩)
   refine scs ?_
   refine ck e31 (h1) rfl ?_
   refine sv7 ?_
   refine scs ?_
   refine ck e31 (h2) rfl ?_
   refine sv8 ?_
   refine scs ?_
   refine Fin.nt results9 [] ?_ ?_ ?_ <;> try trivial
   (refine rsl ?_; try exact .intro)
   rw [showCmd, hc]
   simp [cmdW, decsB_two, decsB_one, ByteArray.append_assoc]
  ·refine sv9 ?_
   repeat ((with_reducible show _ = true /\ _); refine ⟨by kernel_rfl, ?_⟩)
   refine scs ?_
   refine ck e31 (h1) rfl ?_
   refine sv9 ?_
   refine scs ?_
   refine Fin.nt results9 [] ?_ ?_ ?_ <;> try trivial
   (refine rsl ?_; try exact .intro)
   rw [showCmd, hc]
   simp [cmdW, decsB_one, ByteArray.append_assoc]
  ·refine sv10 ?_
   repeat ((with_reducible show _ = true /\ _); refine ⟨by kernel_rfl, ?_⟩)
   refine scs ?_
   refine ck e31 (h1) rfl ?_
   refine sv10 ?_
   refine scs ?_
   refine ck e31 (h2) rfl ?_
   refine sv8 ?_
   refine scs ?_
   refine Fin.nt results9 [] ?_ ?_ ?_ <;> try trivial
   (refine rsl ?_; try exact .intro)
   rw [showCmd, hc]
   simp [cmdW, decsB_two, decsB_one, ByteArray.append_assoc]
theorem strsRep {w : World} : ∀ {ns : List ByteArray} {vs : List Value} {S : List Nat}, RepL w (ns.map D.str) vs S -> vs = ns.map Value.string
 | [], _, _, h => by cases h; rfl
 | n :: ns, _, _, h => by
  cases h with
  | cons h1 h2 =>
   cases h1
   rw [strsRep h2]; rfl
def strRows (xs : List ByteArray) : List (List D) := xs.map fun s => [D.str s]
theorem strRows_flat : ∀ xs : List ByteArray, (strRows xs).flatten = xs.map D.str
 | [] => rfl
 | x :: xs => by
  show [D.str x] ++ (strRows xs).flatten = _
  rw [strRows_flat xs]; rfl
theorem strRows_len (xs : List ByteArray) : (strRows xs).length = xs.length := List.length_map ..
theorem strRows_snoc (xs : List ByteArray) (x : ByteArray) : strRows xs ++ [[D.str x]] = strRows (xs ++ [x]) := by unfold strRows; rw [List.map_append]; rfl
theorem Ctr.join {P : Program} {ρ : Go.Shelf.Ren} (L : Go.Proofs.Lays.n156 P ρ) (X : Go.Proofs.Builder.Extra P ρ) (xs : List ByteArray) (sep : ByteArray) (hn : xs.length <= 140737488355328)
  (hlen : (Lib.join (xs.map (·.data.toList)) sep.data.toList).length <= 140737488355328) :
  Ctr P (ρ.f 156) [.one (.dat (.sl 1 (strRows xs))), .one (.dat (.str sep))] [] (.one (.dat (.str ⟨(Lib.join (xs.map (·.data.toList)) sep.data.toList).toArray⟩))) [] where
 clean := rfl
 sep := by simp
 len := Nat.le_refl _
 comp := fun o ho => by simp at ho
 calls := fun w β φ vs hor ha => by
  obtain ⟨g1, g2⟩ := ha
  obtain ⟨v0, hv0, S, hr, _⟩ := g2 0 _ rfl
  obtain ⟨v1, hv1, S1, hr1, _⟩ := g2 1 _ rfl
  cases hr1
  have hvs : vs = #[v0, .string sep] := by
   apply Array.ext_getElem?
   intro i
   match i with
   | 0 => exact hv0
   | 1 => exact hv1
   | i + 2 => rw [Array.getElem?_eq_none (by rw [g1]; simp), Array.getElem?_eq_none (by simp)]
  subst hvs
  have hφ : ∀ o, φ o = [] := fun o => by
   have := hor.objs o
   unfold ObjRel at this
   rw [show (lctx w β φ []).ob o = .dead by simp [lctx, Objs]] at this
   exact this
  have fin : Calls P (ρ.f 156) #[v0, .string sep] w fun e w' => e = .returned (.string ⟨(Lib.join (xs.map (·.data.toList)) sep.data.toList).toArray⟩) /\ Below w.heap.size w w' := by
   generalize hrows : strRows xs = rows at hr
   cases hr with
   | nil sz a cap =>
    have hx : xs = [] := by unfold strRows at hrows; simpa using hrows
    subst hx
    exact (Go.Proofs.Any.strings_Join_none L X a cap sep w).mono fun e w' ⟨he, hw⟩ => ⟨he, hw ▸ Below.refl _ _⟩
   | sl sz rows b off cap vs S hb hsz hl hc hcap =>
    subst hrows
    rw [strRows_flat] at hl
    have hvs := strsRep hl
    rw [strRows_len] at hcap ⊢
    exact Go.Proofs.Any.strings_Join L X b off cap xs sep w (fun j x hj => hc j _ (by rw [hvs, List.getElem?_map, hj]; rfl)) hb hn hcap hlen
  refine fin.mono ?_
  rintro e w' ⟨rfl, hB⟩
  have FR : Frm w (fun b => ∃ o, b ∈ φ o) w' := ⟨hB.os, hB.tape, hB.output, hB.size, fun b hb _ => hB.block b hb⟩
  exact ⟨_, β, φ, rfl, ⟨fun o => by unfold ObjRel; rw [show (lctx w' β φ []).ob o = .dead by simp [lctx, Objs]]; exact hφ o, hor.nodup, hor.disj, fun o b hb => (by rw [hφ] at hb; cases hb), hor.glob.frm FR fun b hb => .inl hb⟩,
   fun _ _ => rfl, fun o b hb => .inr ⟨o, hb⟩, ⟨[], .str _, by simp⟩, FR⟩
theorem extraT : Go.Proofs.Builder.Extra prog YtmgemgeeoconbaaDoor.lays156_ren where
 sizeBuilder := by kernel_rfl
 liesBuilder := by kernel_rfl
 t5 := YtmgemgeeoconbaaDoor.lays171.t5
 a5 := YtmgemgeeoconbaaDoor.lays171.a5
 z5 := YtmgemgeeoconbaaDoor.lays171.z5
 v5 := YtmgemgeeoconbaaDoor.lays171.v5
 infoByte := by kernel_rfl
 cellsByte := by kernel_rfl
 sizeByte := by kernel_rfl
 neB5 := by decide
def joinB (xs : List ByteArray) : ByteArray := bs (Lib.join (xs.map (·.data.toList)) [59])
def showCmdC (c : Cmd) : ByteArray := showCmd c.Kind c.Key c.Val
def showBatch (b : Batch) : ByteArray := bif batchOk b then (bif b.Collect then ⟨#[99, 111, 108, 108, 101, 99, 116]⟩ else joinB (b.Cmds.map showCmdC)) else ⟨#[]⟩
theorem cmdW_size (k : Int) : (cmdW k).size = 3 := by
 unfold cmdW
 cases k == 1 <;> cases k == 2 <;> cases k == 3 <;> rfl
theorem showCmd_size (k x v : Int) : (showCmd k x v).size <= 47 := by
 unfold showCmd
 cases h : cmdOk k x v with
 | false => exact Nat.zero_le _
 | true =>
  obtain ⟨_, hx, hv⟩ := cmdOk_in h
  have z1 : (decsB [x]).size <= 22 := decsB_size (l := [x]) (by simpa using hx)
  have z2 : (decsB [x, v]).size <= 44 := decsB_size (l := [x, v]) (by simpa using ⟨hx, hv⟩)
  have z3 := cmdW_size k
  cases (k == 2 || k == 4) <;> simp only [cond_true, cond_false, ByteArray.size_append] <;> omega
theorem bs_data (x : ByteArray) : bs x.data.toList = x := by unfold bs; rfl
theorem joinB_one (x : ByteArray) : joinB [x] = x := by
 unfold joinB
 rw [List.map_cons, List.map_nil, Lib.join_one, bs_data]
theorem joinB_snoc {l : List ByteArray} (h : l ≠ []) (x : ByteArray) : joinB (l ++ [x]) = (joinB l ++ ⟨#[59]⟩) ++ x := by
 cases l with
 | nil => exact absurd rfl h
 | cons y r =>
  unfold joinB
  rw [List.cons_append, List.map_cons, Lib.join_cons, List.map_cons, Lib.join_cons, List.map_append, List.map_cons, List.map_nil]
  conv => rhs; rw [<- bs_data x, show (⟨#[59]⟩ : ByteArray) = bs [59] from rfl, bs_app, bs_app]
  congr 1
  unfold Lib.joinTail
  rw [List.map_append, List.flatten_append]
  simp
theorem joinTail_len : ∀ {r : List (List UInt8)}, (∀ x ∈ r, x.length <= 47) -> (Lib.joinTail [59] r).length <= 48 * r.length
 | [], _ => Nat.zero_le _
 | x :: r, h => by
  have h1 := joinTail_len (r := r) fun y hy => h y (by simp [hy])
  have h2 := h x (by simp)
  unfold Lib.joinTail at h1 ⊢
  rw [List.map_cons, List.flatten_cons, List.length_append, List.length_append, List.length_cons, List.length_cons, List.length_nil]
  omega
theorem joinB_size {l : List ByteArray} (h : ∀ x ∈ l, x.size <= 47) : (joinB l).size <= 48 * l.length := by
 cases l with
 | nil => exact Nat.zero_le _
 | cons y r =>
  unfold joinB
  rw [bs_size, List.map_cons, Lib.join_cons, List.length_append, List.length_cons]
  have h1 := joinTail_len (r := r.map (·.data.toList)) fun z hz => by
   obtain ⟨x, hx, rfl⟩ := List.mem_map.1 hz
   rw [Array.length_toList]; exact h x (by simp [hx])
  have h2 : y.data.toList.length <= 47 := by rw [Array.length_toList]; exact h y (by simp)
  rw [List.length_map] at h1
  omega
theorem showAll_size (l : List Cmd) : (joinB (l.map showCmdC)).size <= 48 * l.length := by
 have := joinB_size (l := l.map showCmdC) fun x hx => by
  obtain ⟨c, _, rfl⟩ := List.mem_map.1 hx
  exact showCmd_size ..
 rwa [List.length_map] at this
theorem batchOk_len {b : Batch} (h : batchOk b = true) (hc : b.Collect = false) : b.Cmds.length <= 6 := by
 unfold batchOk at h
 rw [hc] at h
 simp only [cond_false, Bool.and_eq_true, within, decide_eq_true_eq] at h
 omega
theorem bs_list (l : List UInt8) : (bs l).data.toList = l := rfl
theorem bs_inj {a b : List UInt8} (h : bs a = bs b) : a = b := by rw [<- bs_list a, h, bs_list]
def isD (c : UInt8) : Prop := 48 <= c.toNat /\ c.toNat <= 57
instance (c : UInt8) : Decidable (isD c) := inferInstanceAs (Decidable (_ /\ _))
def dval (a : Nat) (l : List UInt8) : Nat := l.foldl (fun a c => a * 10 + (c.toNat - 48)) a
theorem digit_of {k : Nat} (h : k < 10) : (UInt8.ofNat (48 + k)).toNat = 48 + k := by
 rw [UInt8.toNat_ofNat']; omega
theorem decDigits_isD : ∀ (u : Nat), ∀ c ∈ Lib.decDigits u, isD c := by
 intro u
 induction u using Nat.strongRecOn with
 | ind u ih =>
  intro c hc
  rw [Lib.decDigits] at hc
  split at hc
  ·rename_i h
   simp only [List.mem_singleton] at hc
   subst hc
   unfold isD; rw [digit_of h]; omega
  ·rename_i h
   rw [List.mem_append, List.mem_singleton] at hc
   rcases hc with hc | rfl
   ·exact ih _ (by omega) c hc
   ·unfold isD; rw [digit_of (Nat.mod_lt _ (by decide))]; omega
theorem dval_app (a : Nat) (l m : List UInt8) : dval a (l ++ m) = dval (dval a l) m := List.foldl_append ..
theorem dval_decDigits : ∀ (u : Nat), dval 0 (Lib.decDigits u) = u := by
 intro u
 induction u using Nat.strongRecOn with
 | ind u ih =>
  rw [Lib.decDigits]
  split
  ·rename_i h
   show 0 * 10 + ((UInt8.ofNat (48 + u)).toNat - 48) = u
   rw [digit_of h]; omega
  ·rename_i h
   rw [dval_app, ih _ (by omega)]
   show u / 10 * 10 + ((UInt8.ofNat (48 + u % 10)).toNat - 48) = u
   rw [digit_of (Nat.mod_lt _ (by decide))]; omega
theorem decDigits_ne (u : Nat) : Lib.decDigits u ≠ [] := by
 rw [Lib.decDigits]
 split <;> simp
theorem dval_mono : ∀ (l : List UInt8) (a : Nat), a <= dval a l
 | [], a => Nat.le_refl _
 | c :: l, a => by
  have := dval_mono l (a * 10 + (c.toNat - 48))
  show a <= dval (a * 10 + (c.toNat - 48)) l
  omega
theorem dval_lt : ∀ (l : List UInt8) (a : Nat), (∀ c ∈ l, isD c) -> dval a l < (a + 1) * 10 ^ l.length
 | [], a, _ => by simp [dval]
 | c :: l, a, h => by
  have h1 := dval_lt l (a * 10 + (c.toNat - 48)) fun d hd => h d (by simp [hd])
  have h2 := h c (by simp)
  unfold isD at h2
  show dval (a * 10 + (c.toNat - 48)) l < _
  rw [List.length_cons, Nat.pow_succ]
  have : (a * 10 + (c.toNat - 48) + 1) * 10 ^ l.length <= ((a + 1) * 10) * 10 ^ l.length := Nat.mul_le_mul_right _ (by omega)
  calc _ < _ := h1
   _ <= _ := this
   _ = _ := by rw [Nat.mul_assoc, Nat.mul_comm 10]
theorem parse_dval : ∀ (l : List UInt8) (a : Nat), (∀ c ∈ l, isD c) -> dval a l < 1000000000000000000 -> Lib.parseUint10 a l = .ok (dval a l)
 | [], a, _, _ => rfl
 | c :: l, a, h, hb => by
  have h2 := h c (by simp)
  unfold isD at h2
  have hb' : dval (a * 10 + (c.toNat - 48)) l < 1000000000000000000 := hb
  have h1 := parse_dval l (a * 10 + (c.toNat - 48)) (fun d hd => h d (by simp [hd])) hb'
  have h3 := dval_mono l (a * 10 + (c.toNat - 48))
  unfold Lib.parseUint10
  rw [if_pos h2, if_neg (by omega), if_neg (by omega), h1]
  rfl
theorem parseMag_dec {u : Nat} (h : u < 1000000000000000000) : Lib.parseMag (Lib.decDigits u) = .ok u := by
 unfold Lib.parseMag
 rw [if_neg (decDigits_ne u), parse_dval _ 0 (decDigits_isD u) (by rw [dval_decDigits]; exact h), dval_decDigits]
theorem natOf_lt {u k : Nat} (h : (Lib.decDigits u).length <= k) : u < 10 ^ k := by
 have h1 := dval_lt (Lib.decDigits u) 0 (decDigits_isD u)
 rw [dval_decDigits, Nat.zero_add, Nat.one_mul] at h1
 exact Nat.lt_of_lt_of_le h1 (Nat.pow_le_pow_right (by decide) h)
theorem atoi_itoa {n : Int} (h : (Lib.decDigits n.natAbs).length <= 9) : Lib.atoiAll (Lib.itoa n) = .ok n := by
 have h1 : n.natAbs < 1000000000 := natOf_lt h
 unfold Lib.itoa
 by_cases hn : n < 0
 ·rw [if_pos hn, Lib.atoiAll_minus, parseMag_dec (by omega)]
  simp only [Lib.signed]
  rw [if_neg (by omega)]
  congr 1; omega
 ·rw [if_neg hn, show n.toNat = n.natAbs by omega]
  cases hd : Lib.decDigits n.natAbs with
  | nil => exact absurd hd (decDigits_ne _)
  | cons c r =>
   have hc := decDigits_isD n.natAbs c (by rw [hd]; simp)
   unfold isD at hc
   rw [Lib.atoiAll_plain c r (by omega) (by omega), <- hd, parseMag_dec (by omega)]
   simp only [Lib.signless]
   rw [if_neg (by omega)]
   congr 1; omega
def digOf (l : List UInt8) : List UInt8 := (l.take 11).filter fun c => decide (isD c)
def numOf (l : List UInt8) : Int := if l.head? = some 45 then -(dval 0 (digOf l) : Int) else (dval 0 (digOf l) : Int)
def readDec (s : ByteArray) : Int × Bool := if 9 < (digOf s.data.toList).length \/ 10 < s.size \/ itoaB (numOf s.data.toList) ≠ s then (0, false) else (numOf s.data.toList, true)
def readDecI (s : ByteArray) : Int × Bool := match Lib.atoiAll s.data.toList with
 | .ok v => if itoaB v ≠ s \/ 9 < (Lib.trimPrefix s.data.toList [45]).length then (0, false) else (v, true)
 | _ => (0, false)
theorem filter_dec (u : Nat) : (Lib.decDigits u).filter (fun c => decide (isD c)) = Lib.decDigits u :=
 List.filter_eq_self.2 fun c hc => decide_eq_true (decDigits_isD u c hc)
theorem trim_itoa (n : Int) : Lib.trimPrefix (Lib.itoa n) [45] = Lib.decDigits n.natAbs := by
 unfold Lib.itoa
 by_cases hn : n < 0
 ·rw [if_pos hn]; rfl
 ·rw [if_neg hn, show n.toNat = n.natAbs by omega]
  cases hd : Lib.decDigits n.natAbs with
  | nil => exact absurd hd (decDigits_ne _)
  | cons c r =>
   have hc := decDigits_isD n.natAbs c (by rw [hd]; simp)
   unfold isD at hc
   unfold Lib.trimPrefix Lib.hasPrefix
   have : (45 == c) = false := by
    rw [beq_eq_false_iff_ne]; rintro rfl; exact absurd hc.1 (by decide)
   simp [List.isPrefixOf, this]
theorem readDec_good {n : Int} (h : (Lib.decDigits n.natAbs).length <= 9) : readDec (itoaB n) = (n, true) := by
 have key : digOf (Lib.itoa n) = Lib.decDigits n.natAbs /\ (Lib.itoa n).length <= 10 /\ ((Lib.itoa n).head? = some 45 ↔ n < 0) := by
  unfold Lib.itoa digOf
  by_cases hn : n < 0
  ·rw [if_pos hn]
   refine ⟨?_, by simp; omega, by simp [hn]⟩
   rw [List.take_of_length_le (by simp; omega), List.filter_cons]
   rw [if_neg (by decide), filter_dec]
  ·rw [if_neg hn, show n.toNat = n.natAbs by omega]
   refine ⟨?_, by omega, ?_⟩
   ·rw [List.take_of_length_le (by omega), filter_dec]
   ·cases hd : Lib.decDigits n.natAbs with
    | nil => exact absurd hd (decDigits_ne _)
    | cons c r =>
     have hc := decDigits_isD n.natAbs c (by rw [hd]; simp)
     unfold isD at hc
     simp only [List.head?_cons, Option.some.injEq, hn, iff_false]
     rintro rfl; exact absurd hc.1 (by decide)
 obtain ⟨k1, k2, k3⟩ := key
 have hnum : numOf (Lib.itoa n) = n := by
  unfold numOf
  rw [k1, dval_decDigits]
  by_cases hn : n < 0
  ·rw [if_pos (k3.2 hn)]; omega
  ·rw [if_neg (fun e => hn (k3.1 e))]; omega
 unfold readDec
 rw [itoaB, bs_list, k1, hnum, if_neg]
 intro hh
 rcases hh with h1 | h1 | h1
 ·omega
 ·have : (bs (Lib.itoa n)).size = (Lib.itoa n).length := by simp [bs, ByteArray.size]
  omega
 ·exact h1 rfl
theorem readDecI_good {n : Int} (h : (Lib.decDigits n.natAbs).length <= 9) : readDecI (itoaB n) = (n, true) := by
 unfold readDecI
 rw [itoaB, bs_list, atoi_itoa h]
 simp only
 rw [if_neg]
 rintro (h1 | h1)
 ·exact h1 rfl
 ·rw [trim_itoa] at h1; omega
theorem readDec_true {s : ByteArray} (h : (readDec s).2 = true) : ∃ n : Int, s = itoaB n /\ (Lib.decDigits n.natAbs).length <= 9 := by
 unfold readDec at h
 split at h
 ·cases h
 ·rename_i hh
  simp only [not_or, Nat.not_lt, Decidable.not_not] at hh
  obtain ⟨h1, h2, h3⟩ := hh
  generalize numOf s.data.toList = n at h3
  refine ⟨n, h3.symm, ?_⟩
  rw [<- h3, itoaB, bs_list] at h1
  have h4 : (Lib.itoa n).length <= 10 := by
   rw [<- h3] at h2
   simpa [itoaB, bs, ByteArray.size] using h2
  unfold digOf at h1
  rw [List.take_of_length_le (by omega)] at h1
  unfold Lib.itoa at h1
  split at h1
  ·rw [List.filter_cons, if_neg (by decide), filter_dec] at h1; exact h1
  ·rename_i hn
   rw [filter_dec, show n.toNat = n.natAbs by omega] at h1; exact h1
theorem readDecI_true {s : ByteArray} (h : (readDecI s).2 = true) : ∃ n : Int, s = itoaB n /\ (Lib.decDigits n.natAbs).length <= 9 := by
 unfold readDecI at h
 split at h
 ·rename_i v hv
  split at h
  ·cases h
  ·rename_i hh
   simp only [not_or, Nat.not_lt, Decidable.not_not] at hh
   obtain ⟨h1, h2⟩ := hh
   refine ⟨v, h1.symm, ?_⟩
   rw [<- h1, itoaB, bs_list, trim_itoa] at h2
   exact h2
 ·cases h
theorem readDec_false {s : ByteArray} (h : (readDec s).2 = false) : readDec s = (0, false) := by
 unfold readDec at h ⊢
 split at h
 ·rename_i hh; rw [if_pos hh]
 ·cases h
theorem readDecI_false {s : ByteArray} (h : (readDecI s).2 = false) : readDecI s = (0, false) := by
 unfold readDecI at h ⊢
 split at h
 ·rename_i v hv
  split at h
  ·rename_i hh; rw [if_pos hh]
  ·cases h
 ·rfl
theorem readDec_eq (s : ByteArray) : readDecI s = readDec s := by
 cases hi : (readDecI s).2 with
 | true =>
  obtain ⟨n, rfl, h⟩ := readDecI_true hi
  rw [readDecI_good h, readDec_good h]
 | false =>
  cases hs : (readDec s).2 with
  | true =>
   obtain ⟨n, rfl, h⟩ := readDec_true hs
   rw [readDecI_good h] at hi
   cases hi
  | false => rw [readDecI_false hi, readDec_false hs]
theorem readDec_in (s : ByteArray) : -1000000000 < (readDec s).1 /\ (readDec s).1 < 1000000000 := by
 cases hs : (readDec s).2 with
 | true =>
  obtain ⟨n, rfl, h⟩ := readDec_true hs
  have := natOf_lt h
  rw [readDec_good h]
  simp only
  omega
 | false => rw [readDec_false hs]; simp
def cutK (c : UInt8) : Nat -> List UInt8 -> List UInt8 -> List (List UInt8)
 | _, [], cur => [cur]
 | 0, x :: l, cur => [cur ++ x :: l]
 | k + 1, x :: l, cur => if x == c then cur :: cutK c k l [] else cutK c (k + 1) l (cur ++ [x])
def cutG (c : UInt8) : List UInt8 -> List UInt8 -> List (List UInt8)
 | [], cur => [cur]
 | x :: l, cur => if x == c then cur :: cutG c l [] else cutG c l (cur ++ [x])
theorem cutK_all (c : UInt8) : ∀ (l : List UInt8) (k : Nat) (cur : List UInt8), l.count c <= k -> cutK c k l cur = cutG c l cur
 | [], _, cur, _ => by simp [cutK, cutG]
 | x :: l, 0, cur, h => by
  have h0 : ∀ (m : List UInt8) (cur : List UInt8), m.count c = 0 -> cutG c m cur = [cur ++ m] := by
   intro m
   induction m with
   | nil => intro cur _; simp [cutG]
   | cons y m ih =>
    intro cur hm
    rw [List.count_cons] at hm
    have hy : (y == c) = false := by
     cases e : y == c with
     | false => rfl
     | true => rw [e] at hm; simp at hm
    rw [cutG, hy]
    simp only [Bool.false_eq_true, if_false]
    rw [ih _ (by omega)]; simp
  rw [h0 (x :: l) cur (by omega), cutK]
 | x :: l, k + 1, cur, h => by
  rw [List.count_cons] at h
  rw [cutK, cutG]
  cases e : x == c with
  | true =>
   rw [e] at h
   simp only [if_true] at h ⊢
   rw [cutK_all c l k [] (by omega)]
  | false =>
   rw [e] at h
   simp only [Bool.false_eq_true, if_false] at h ⊢
   rw [cutK_all c l (k + 1) _ (by omega)]
theorem occ_one (c : UInt8) (s : List UInt8) (j : Nat) : Lib.occAt s [c] j = (s[j]? == some c) := by
 unfold Lib.occAt
 rw [<- List.head?_drop]
 cases s.drop j with
 | nil => rfl
 | cons x r =>
  simp only [List.isPrefixOf, List.head?_cons, Bool.and_true]
  by_cases e : x = c
  ·subst e; simp
  ·have : (c == x) = false := by rw [beq_eq_false_iff_ne]; exact fun h => e h.symm
   rw [this]; symm; simp [e]
theorem index_miss {c : UInt8} {s : List UInt8} (h : c ∉ s) : Lib.index s [c] = -1 := by
 apply Lib.index_none
 intro j _
 rw [occ_one, beq_eq_false_iff_ne]
 intro e
 exact h (List.mem_of_getElem? e)
theorem index_hit {c : UInt8} {s r : List UInt8} (h : c ∉ s) : Lib.index (s ++ c :: r) [c] = s.length := by
 apply Lib.index_first
 ·simp
 ·rw [occ_one]; simp
 ·intro j hj
  rw [occ_one, beq_eq_false_iff_ne, List.getElem?_append_left hj]
  intro e
  exact h (List.mem_of_getElem? e)
theorem splitK_cut (c : UInt8) : ∀ (l : List UInt8) (k : Nat) (cur : List UInt8), c ∉ cur -> Lib.splitK [c] 0 k (cur ++ l) = cutK c k l cur
 | [], k, cur, h => by
  rw [List.append_nil]
  cases k with
  | zero => rfl
  | succ k => rw [Lib.splitK, index_miss h]; simp [cutK]
 | x :: l, 0, cur, h => by rw [Lib.splitK, cutK]
 | x :: l, k + 1, cur, h => by
  rw [cutK]
  cases e : x == c with
  | true =>
   obtain rfl := beq_iff_eq.1 e
   rw [Lib.splitK, index_hit h]
   have h1 : (((cur.length : Nat) : Int) == -1) = false := by rw [beq_eq_false_iff_ne]; omega
   have h2 := splitK_cut x l k [] (by simp)
   rw [List.nil_append] at h2
   simp only [h1, Bool.false_eq_true, if_false, if_true, Int.toNat_natCast, Nat.add_zero, List.length_cons, List.length_nil]
   rw [List.take_left, show cur.length + (0 + 1) = (cur ++ [x]).length by simp, show cur ++ x :: l = (cur ++ [x]) ++ l by simp, List.drop_left, h2]
  | false =>
   simp only [Bool.false_eq_true, if_false]
   rw [<- splitK_cut c l (k + 1) (cur ++ [x]) (by simp only [List.mem_append, List.mem_singleton, not_or]; exact ⟨h, fun e' => by rw [e'] at e; simp at e⟩)]
   simp
def cutB (c : UInt8) (s : ByteArray) : List ByteArray := (cutG c s.data.toList []).map bs
def cutBK (c : UInt8) (k : Nat) (s : ByteArray) : List ByteArray := (cutK c k s.data.toList []).map bs
theorem splitB_cut (c : UInt8) (k : Nat) (s : ByteArray) : Lib.splitB ⟨#[c]⟩ 0 k s = cutBK c k s := by
 have h := Lib.splitB_data ⟨#[c]⟩ 0 k s
 have h2 := splitK_cut c s.data.toList k [] (by simp)
 rw [List.nil_append] at h2
 have h3 : (Lib.splitB ⟨#[c]⟩ 0 k s).map (·.data.toList) = cutK c k s.data.toList [] := h.trans h2
 unfold cutBK
 rw [<- h3, List.map_map]
 symm
 conv => rhs; rw [<- List.map_id (Lib.splitB ⟨#[c]⟩ 0 k s)]
 exact List.map_congr_left fun x _ => bs_data x
theorem split_cut (c : UInt8) (s : ByteArray) : Lib.splitB ⟨#[c]⟩ 0 (Lib.countB s ⟨#[c]⟩) s = cutB c s := by
 rw [splitB_cut]
 unfold cutBK cutB
 rw [cutK_all]
 show _ <= Lib.count s.data.toList [c]
 rw [Lib.count_one]
 exact Nat.le_refl _
theorem cutG_word {c : UInt8} : ∀ {w : List UInt8} (cur r : List UInt8), c ∉ w -> cutG c (w ++ c :: r) cur = (cur ++ w) :: cutG c r []
 | [], cur, r, _ => by simp [cutG]
 | x :: w, cur, r, h => by
  have e : (x == c) = false := by rw [beq_eq_false_iff_ne]; rintro rfl; simp at h
  rw [List.cons_append, cutG, e]
  simp only [Bool.false_eq_true, if_false]
  rw [cutG_word _ _ (fun h' => h (by simp [h']))]; simp
theorem cutG_last {c : UInt8} : ∀ {w : List UInt8} (cur : List UInt8), c ∉ w -> cutG c w cur = [cur ++ w]
 | [], cur, _ => by simp [cutG]
 | x :: w, cur, h => by
  have e : (x == c) = false := by rw [beq_eq_false_iff_ne]; rintro rfl; simp at h
  rw [cutG, e]
  simp only [Bool.false_eq_true, if_false]
  rw [cutG_last _ (fun h' => h (by simp [h']))]; simp
theorem cutG_ne (c : UInt8) : ∀ (l cur : List UInt8), cutG c l cur ≠ []
 | [], _ => by simp [cutG]
 | x :: l, cur => by
  rw [cutG]
  split
  ·simp
  ·exact cutG_ne c l _
theorem cutG_length (c : UInt8) : ∀ (l cur : List UInt8), (cutG c l cur).length = l.count c + 1
 | [], _ => by simp [cutG]
 | x :: l, cur => by
  rw [cutG, List.count_cons]
  cases e : x == c with
  | true => simp [cutG_length c l]
  | false => simp [cutG_length c l]
theorem cutK_length (c : UInt8) : ∀ (l : List UInt8) (k : Nat) (cur : List UInt8), (cutK c k l cur).length <= k + 1
 | [], k, _ => by simp [cutK]
 | x :: l, 0, cur => by simp [cutK]
 | x :: l, k + 1, cur => by
  rw [cutK]
  split
  ·have := cutK_length c l k []
   simp; omega
  ·exact cutK_length c l (k + 1) _
theorem cutK_ne (c : UInt8) : ∀ (l : List UInt8) (k : Nat) (cur : List UInt8), cutK c k l cur ≠ []
 | [], k, _ => by simp [cutK]
 | x :: l, 0, cur => by simp [cutK]
 | x :: l, k + 1, cur => by
  rw [cutK]
  split
  ·simp
  ·exact cutK_ne c l (k + 1) _
theorem cutK_left (c : UInt8) : ∀ (l : List UInt8) (k : Nat) (cur : List UInt8), k < l.count c -> ∃ p ∈ cutK c k l cur, c ∈ p
 | [], k, _, h => by simp at h
 | x :: l, 0, cur, h => by
  refine ⟨cur ++ x :: l, by simp [cutK], ?_⟩
  have : c ∈ x :: l := List.count_pos_iff.1 h
  exact List.mem_append_right _ this
 | x :: l, k + 1, cur, h => by
  rw [List.count_cons] at h
  rw [cutK]
  cases e : x == c with
  | true =>
   rw [e] at h
   simp only [if_true] at h ⊢
   obtain ⟨p, h1, h2⟩ := cutK_left c l k [] (by omega)
   exact ⟨p, by simp [h1], h2⟩
  | false =>
   rw [e] at h
   simp only [Bool.false_eq_true, if_false] at h ⊢
   exact cutK_left c l (k + 1) _ (by omega)
theorem cutB_length (c : UInt8) (s : ByteArray) : (cutB c s).length = s.data.toList.count c + 1 := by unfold cutB; rw [List.length_map, cutG_length]
theorem cutB_le (c : UInt8) (s : ByteArray) : (cutB c s).length <= s.size + 1 := by
 rw [cutB_length]
 have := List.count_le_length (a := c) (l := s.data.toList)
 have h2 : s.data.toList.length = s.size := Array.length_toList
 omega
def numAt (ws : List ByteArray) (i : Nat) : Int := match ws[i]? with
 | some w => (readDec w).1
 | none => 0
theorem numAt_in (ws : List ByteArray) (i : Nat) : -1000000000 < numAt ws i /\ numAt ws i < 1000000000 := by
 unfold numAt
 split
 ·exact readDec_in _
 ·decide
theorem below_grow (w : World) (k : Nat) (os : Array Obj) : Below w.heap.size w (Go.Sort.grow (w.drewN k) os) := by
 exact ⟨rfl, rfl, rfl, by simp, fun b hb => Go.Sort.heap_grow_old _ _ hb⟩
theorem tabIs_below {P : Program} {w w' : World} {nm : String} {k : IntKind} {zs : List Int} (h : Lib.TabIs P w nm k zs) (hb : Below w.heap.size w w') : Lib.TabIs P w' nm k zs := by
 unfold Lib.TabIs World.var? at h ⊢
 cases hg : P.globalNamed nm with
 | none => rw [hg] at h; cases h
 | some g =>
  rw [hg] at h
  simp only [Option.bind_some] at h ⊢
  have hlt : g < w.heap.size := by
   rcases Nat.lt_or_ge g w.heap.size with h1 | h1
   ·exact h1
   ·rw [Array.getElem?_eq_none h1] at h; cases h
  rw [hb.block g hlt]; exact h
theorem atoi_below {w w' : World} {T : TypeId} (h : w' = w \/ ∃ t, w' = Lib.bytesWorld w T t) : Below w.heap.size w w' := by
 rcases h with rfl | ⟨t, rfl⟩
 ·exact Below.refl _ _
 ·exact Lib.bytesWorld_below _ _ _
theorem Ctr.ofB {P : Program} {f : FuncId} {avs : List AV} {r : AV} (hcl : r.Clean)
  (h : ∀ (w : World) (X : Nat -> Prop) (C : Ctx) (vs : Array Value), C.w = w -> GlobOk w X -> ArgsRel C avs vs ->
    Calls P f vs w fun e w' => ∃ v, e = .returned v /\ Below w.heap.size w w' /\ ∀ C' : Ctx, C'.w = w' -> (∀ b, ¬ C'.M b) -> AVRel C' r v) : Ctr P f avs [] r [] where
 clean := hcl
 sep := by simp
 len := Nat.le_refl _
 comp := fun o ho => by simp at ho
 calls := fun w β φ vs hor ha => by
  have hφ : ∀ o, φ o = [] := fun o => by
   have := hor.objs o
   unfold ObjRel at this
   rw [show (lctx w β φ []).ob o = .dead by simp [lctx, Objs]] at this
   exact this
  refine (h w _ (lctx w β φ []) vs rfl hor.glob ha).mono ?_
  rintro e w' ⟨v, rfl, hB, hv⟩
  have FR : Frm w (fun b => ∃ o, b ∈ φ o) w' := ⟨hB.os, hB.tape, hB.output, hB.size, fun b hb _ => hB.block b hb⟩
  exact ⟨_, β, φ, rfl, ⟨fun o => by unfold ObjRel; rw [show (lctx w' β φ []).ob o = .dead by simp [lctx, Objs]]; exact hφ o, hor.nodup, hor.disj, fun o b hb => (by rw [hφ] at hb; cases hb), hor.glob.frm FR fun b hb => .inl hb⟩,
   fun _ _ => rfl, fun o b hb => .inr ⟨o, hb⟩, hv (lctx w' β φ []) rfl (fun b hb => by obtain ⟨o, hb⟩ := hb; rw [hφ] at hb; cases hb), FR⟩
theorem args_one {C : Ctx} {d : D} {vs : Array Value} (h : ArgsRel C [.one (.dat d)] vs) : ∃ v, vs = #[v] /\ ∃ S, Rep C.w d v S := by
 obtain ⟨g1, g2⟩ := h
 obtain ⟨v0, hv0, S, hr, _⟩ := g2 0 _ rfl
 refine ⟨v0, ?_, S, hr⟩
 apply Array.ext_getElem?
 intro i
 match i with
 | 0 => exact hv0
 | i + 1 => rw [Array.getElem?_eq_none (by rw [g1]; simp), Array.getElem?_eq_none (by simp)]
theorem args_two {C : Ctx} {d d' : D} {vs : Array Value} (h : ArgsRel C [.one (.dat d), .one (.dat d')] vs) : ∃ v v', vs = #[v, v'] /\ (∃ S, Rep C.w d v S) /\ ∃ S, Rep C.w d' v' S := by
 obtain ⟨g1, g2⟩ := h
 obtain ⟨v0, hv0, S, hr, _⟩ := g2 0 _ rfl
 obtain ⟨v1, hv1, S1, hr1, _⟩ := g2 1 _ rfl
 refine ⟨v0, v1, ?_, ⟨S, hr⟩, S1, hr1⟩
 apply Array.ext_getElem?
 intro i
 match i with
 | 0 => exact hv0
 | 1 => exact hv1
 | i + 2 => rw [Array.getElem?_eq_none (by rw [g1]; simp), Array.getElem?_eq_none (by simp)]
theorem args_three {C : Ctx} {d d' d'' : D} {vs : Array Value} (h : ArgsRel C [.one (.dat d), .one (.dat d'), .one (.dat d'')] vs) : ∃ v v' v'', vs = #[v, v', v''] /\ (∃ S, Rep C.w d v S) /\ (∃ S, Rep C.w d' v' S) /\ ∃ S, Rep C.w d'' v'' S := by
 obtain ⟨g1, g2⟩ := h
 obtain ⟨v0, hv0, S, hr, _⟩ := g2 0 _ rfl
 obtain ⟨v1, hv1, S1, hr1, _⟩ := g2 1 _ rfl
 obtain ⟨v2, hv2, S2, hr2, _⟩ := g2 2 _ rfl
 refine ⟨v0, v1, v2, ?_, ⟨S, hr⟩, ⟨S1, hr1⟩, S2, hr2⟩
 apply Array.ext_getElem?
 intro i
 match i with
 | 0 => exact hv0
 | 1 => exact hv1
 | 2 => exact hv2
 | i + 3 => rw [Array.getElem?_eq_none (by rw [g1]; simp), Array.getElem?_eq_none (by simp)]
theorem glob_cell {w : World} {X : Nat -> Prop} {g : Nat} {p : Array Value -> Prop} (h : GlobOk w X) (hm : (g, Tab.cell p) ∈ tabs) : ∃ cs : Array Value, p cs /\ ∀ v, cs[0]? = some v -> w.cell? ⟨g, 0, none⟩ = some v := by
 obtain ⟨_, cs, T, fr, h1, h2⟩ := h _ hm
 refine ⟨cs, h2, fun v hv => ?_⟩
 rw [World.cell?, h1]
 exact hv
theorem World.alloc_new (w : World) (o : Obj) : (w.alloc o).heap[w.heap.size]? = some o := by
 show (w.heap.push o)[w.heap.size]? = some o
 exact Array.getElem?_push_size
theorem World.alloc_lt (w : World) (o : Obj) : w.heap.size < (w.alloc o).heap.size := by
 show w.heap.size < (w.heap.push o).size
 rw [Array.size_push]; omega
theorem strs_own {w : World} : ∀ xs : List ByteArray, OwnL w (xs.map D.str) (xs.map Value.string) []
 | [] => .nil
 | x :: xs => .cons (.flat _ _ (.str x) rfl) (strs_own xs)
theorem strs_rep {w : World} : ∀ xs : List ByteArray, RepL w (xs.map D.str) (xs.map Value.string) []
 | [] => .nil
 | x :: xs => .cons (.str x) (strs_rep xs)
theorem Ctr.ofNew {P : Program} {f : FuncId} {avs : List AV} (xs : List ByteArray)
  (h : ∀ (w : World) (X : Nat -> Prop) (C : Ctx) (vs : Array Value), C.w = w -> GlobOk w X -> ArgsRel C avs vs ->
    Calls P f vs w fun e w' => ∃ (T : TypeId) (rest : List ByteArray), e = .returned (.slice (some ⟨w.heap.size, 0, none⟩) xs.length (xs.length + rest.length)) /\ w' = w.alloc (.cells ((xs ++ rest).map Value.string).toArray T (0, 0))) :
  Ctr P f avs [] (.one (.own 0)) [.vec 1 true (strRows xs)] where
 clean := trivial
 sep := fun x hx => by
  obtain rfl := List.mem_singleton.1 hx
  exact rfl
 len := Nat.zero_le _
 comp := fun o ho => by simp at ho
 calls := fun w β φ vs hor ha => by
  have hφ : ∀ o, φ o = [] := fun o => by
   have := hor.objs o
   unfold ObjRel at this
   rw [show (lctx w β φ []).ob o = .dead by simp [lctx, Objs]] at this
   exact this
  refine (h w _ (lctx w β φ []) vs rfl hor.glob ha).mono ?_
  rintro e w' ⟨T, rest, rfl, rfl⟩
  have FR : Frm w (fun b => ∃ o, b ∈ φ o) (w.alloc (.cells ((xs ++ rest).map Value.string).toArray T (0, 0))) :=
   ⟨rfl, rfl, rfl, Nat.le_of_lt (World.alloc_lt w _), fun b hb _ => Below.heap_alloc w _ b hb⟩
  refine ⟨_, fun _ => ⟨some ⟨w.heap.size, 0, none⟩, xs.length + rest.length⟩, fun o => if o = 0 then [w.heap.size] else [], rfl, ⟨fun o => ?_, fun o => ?_, fun o o' hne b hb hb' => ?_, fun o b hb => ?_, ?_⟩, fun _ ho => absurd ho (Nat.not_lt_zero _), fun o b hb => ?_, ⟨by simp [lctx], ?_⟩, FR⟩
  ·unfold ObjRel
   cases o with
   | succ o =>
    rw [show (lctx _ _ _ [AObj.vec 1 true (strRows xs)]).ob (o + 1) = .dead from rfl]
    rfl
   | zero =>
    rw [show (lctx _ _ _ [AObj.vec 1 true (strRows xs)]).ob 0 = .vec 1 true (strRows xs) from rfl]
    refine ⟨by unfold strRows; simp, ?_, .inr ⟨w.heap.size, T, [], [], _, rfl, World.alloc_new w _, ⟨?_, rest.map D.str, ?_⟩, ?_, rfl, ?_⟩⟩
    ·rw [strRows_len]; exact Nat.le_add_right ..
    ·rw [Nat.mul_one, List.size_toArray, List.length_map, List.length_append]; rfl
    ·rw [Nat.mul_one, strRows_len, List.map_append, show xs.length = (xs.map Value.string).length by rw [List.length_map], List.drop_left]
     exact strs_rep rest
    ·rw [Nat.mul_one, strRows_len, strRows_flat, List.map_append, show xs.length = (xs.map Value.string).length by rw [List.length_map], List.take_left]
     exact strs_rep xs
    ·rw [if_pos rfl]
     refine ⟨List.nodup_nil, by simp, ?_⟩
     rw [Nat.mul_one, strRows_len, strRows_flat, List.map_append, show xs.length = (xs.map Value.string).length by rw [List.length_map], List.take_left]
     exact strs_own xs
  ·show (if o = 0 then [w.heap.size] else []).Nodup
   split <;> simp
  ·have hb : b ∈ (if o = 0 then [w.heap.size] else []) := hb
   have hb' : b ∈ (if o' = 0 then [w.heap.size] else []) := hb'
   split at hb <;> split at hb' <;> first | omega | (cases hb; done) | (cases hb'; done)
  ·have hb : b ∈ (if o = 0 then [w.heap.size] else []) := hb
   split at hb
   ·obtain rfl := List.mem_singleton.1 hb
    exact World.alloc_lt w _
   ·cases hb
  ·refine hor.glob.frm FR fun b ⟨o, hb⟩ => ?_
   have hb : b ∈ (if o = 0 then [w.heap.size] else []) := hb
   split at hb
   ·obtain rfl := List.mem_singleton.1 hb
    exact .inr (Nat.le_refl _)
   ·cases hb
  ·have hb : b ∈ (if o = 0 then [w.heap.size] else []) := hb
   split at hb
   ·obtain rfl := List.mem_singleton.1 hb
    exact .inl (Nat.le_refl _)
   ·cases hb
  ·rw [show (lctx _ _ _ [AObj.vec 1 true (strRows xs)]).ob 0 = .vec 1 true (strRows xs) from rfl]
   show _ = Value.slice _ (strRows xs).length _
   rw [strRows_len]
   rfl
theorem dec_raw (n : Int) (h0 : -9223372036854775808 <= n) (h1 : n <= 9223372036854775807) (w : World) (ht : Lib.TabIs prog w "internal/strconv.uint64pow10" .u64 Lib.pow10Tab) :
  Calls prog 55 #[.int .i64 n] w fun e w' => e = .returned (.string ⟨(Lib.itoa n).toArray⟩) /\ Below w.heap.size w w' := by
 go_enter func55, Tryd.ntmps55
 go_wp2_with (go_at_call 64; refine (Any.strconv_Itoa YtmgemgeeoconbaaDoor.lays171 n h0 h1 _ ht).mono ?_; rintro e w' ⟨rfl, k, os, rfl⟩)
 go_ret
 exact ⟨rfl, below_grow ..⟩
theorem readDec_raw (s : ByteArray) (hs : s.size <= 1048576) (w : World) (ht : Lib.TabIs prog w "internal/strconv.uint64pow10" .u64 Lib.pow10Tab)
  (h4 : ∃ t p, w.cell? ⟨4, 0, none⟩ = some (.iface t p)) (h5 : ∃ t p, w.cell? ⟨5, 0, none⟩ = some (.iface t p)) :
  Calls prog 63 #[.string s] w fun e w' => e = .returned (.tuple #[.int .i64 (readDecI s).1, .bool (readDecI s).2]) /\ Below w.heap.size w w' := by
 obtain ⟨t4, p4, h4⟩ := h4
 obtain ⟨t5, p5, h5⟩ := h5
 rcases h : Lib.atoiAll s.data.toList with v | _ | _
 ·skip
  obtain ⟨b0, b1⟩ := Lib.atoiAll_bounds h
  by_cases hd : itoaB v = s
  ·generalize hT : (⟨(Lib.trimPrefix s.data.toList [45]).toArray⟩ : ByteArray) = T
   have hTz : T.size = (Lib.trimPrefix s.data.toList [45]).length := by rw [<- hT]; rfl
   have hc : ∀ W2, Calls prog 72 #[.string s, .string ⟨#[45]⟩] W2 fun e w' => e = .returned (.string T) /\ w' = W2 := fun W2 => by
    rw [<- hT]; exact Any.strings_TrimPrefix YtmgemgeeoconbaaDoor.lays101 s ⟨#[45]⟩ W2
   by_cases hl : 9 < T.size
   ·have hr : readDecI s = (0, false) := by unfold readDecI; rw [h]; simp only; rw [if_pos (.inr (by omega))]
    rw [hr]
    go_enter func63, Tryd.ntmps63
    go_wp2_with (go_at_call 71; refine (Any.strconv_Atoi_ok YtmgemgeeoconbaaDoor.lays172 s (by omega) v h _).mono ?_; rintro e w' ⟨rfl, hw⟩)
    have hb1 := atoi_below hw
    clear hw
    refine (dec_raw v b0 b1 _ (tabIs_below ht hb1)).mono ?_
    rintro e W2 ⟨rfl, hb2⟩
    have hb : Below w.heap.size w W2 := hb1.trans (hb2.mono hb1.size)
    rw [show (⟨(Lib.itoa v).toArray⟩ : ByteArray) = s from hd]
    go_wp2_with (go_at_call 72; refine (hc _).mono ?_; rintro e w' ⟨rfl, rfl⟩)
    go_ret2
    exact ⟨rfl, hb⟩
   ·have hr : readDecI s = (v, true) := by
     unfold readDecI; rw [h]; simp only; rw [if_neg]
     rintro (h1 | h1)
     ·exact h1 hd
     ·omega
    rw [hr]
    go_enter func63, Tryd.ntmps63
    go_wp2_with (go_at_call 71; refine (Any.strconv_Atoi_ok YtmgemgeeoconbaaDoor.lays172 s (by omega) v h _).mono ?_; rintro e w' ⟨rfl, hw⟩)
    have hb1 := atoi_below hw
    clear hw
    refine (dec_raw v b0 b1 _ (tabIs_below ht hb1)).mono ?_
    rintro e W2 ⟨rfl, hb2⟩
    have hb : Below w.heap.size w W2 := hb1.trans (hb2.mono hb1.size)
    rw [show (⟨(Lib.itoa v).toArray⟩ : ByteArray) = s from hd]
    go_wp2_with (go_at_call 72; refine (hc _).mono ?_; rintro e w' ⟨rfl, rfl⟩)
    go_ret2
    exact ⟨rfl, hb⟩
  ·have hr : readDecI s = (0, false) := by unfold readDecI; rw [h]; simp only; rw [if_pos (.inl hd)]
   rw [hr]
   go_enter func63, Tryd.ntmps63
   go_wp2_with (go_at_call 71; refine (Any.strconv_Atoi_ok YtmgemgeeoconbaaDoor.lays172 s (by omega) v h _).mono ?_; rintro e w' ⟨rfl, hw⟩)
   have hb1 := atoi_below hw
   clear hw
   refine (dec_raw v b0 b1 _ (tabIs_below ht hb1)).mono ?_
   rintro e W2 ⟨rfl, hb2⟩
   have hb : Below w.heap.size w W2 := hb1.trans (hb2.mono hb1.size)
   generalize hT : (⟨(Lib.itoa v).toArray⟩ : ByteArray) = T
   have hTs : (T.toList == s.toList) = false := by
    rw [beq_eq_false_iff_ne, ByteArray.toList_eq, ByteArray.toList_eq]
    intro e
    exact hd (by rw [<- bs_data s, <- e, bs_data, <- hT]; rfl)
   go_wp2
   all_goals first
    | (rename_i hh; simp only [hTs, Bool.false_eq_true] at hh; done)
    | (go_ret2; exact ⟨rfl, hb⟩)
 ·skip
  have hr : readDecI s = (0, false) := by unfold readDecI; rw [h]
  rw [hr]
  go_enter func63, Tryd.ntmps63
  go_wp2_with (go_at_call 71; refine (Any.strconv_Atoi_syntax YtmgemgeeoconbaaDoor.lays172 s (by omega) h (.iface t4 p4) _ ?_ (.inr ⟨_, _, rfl⟩)).mono ?_)
  ·exact h4
  rintro e W1 ⟨N, rfl, -, -, hb⟩
  go_wp2
  go_ret2
  exact ⟨rfl, hb⟩
 ·skip
  have hr : readDecI s = (0, false) := by unfold readDecI; rw [h]
  rw [hr]
  go_enter func63, Tryd.ntmps63
  go_wp2_with (go_at_call 71; refine (Any.strconv_Atoi_range YtmgemgeeoconbaaDoor.lays172 s (by omega) h (.iface t5 p5) _ ?_ (.inr ⟨_, _, rfl⟩)).mono ?_)
  ·exact h5
  rintro e W1 ⟨N, rfl, -, -, hb⟩
  go_wp2
  go_ret2
  exact ⟨rfl, hb⟩
theorem c63 (s : ByteArray) (hs : s.size <= 1048576) : Ctr prog 63 [.one (.dat (.str s))] [] (.tup [.one (.dat (.int .i64 (readDec s).1)), .one (.dat (.bool (readDec s).2))]) [] := by
 refine Ctr.ofB (by simp [AV.Clean, AV.Clean1, Leaf.Clean, D.flat]) fun w X C vs hC hG ha => ?_
 ·skip
  obtain ⟨v, rfl, S, hr⟩ := args_one ha
  cases hr
  obtain ⟨cs4, ⟨t4, p4, e4⟩, h4⟩ := glob_cell hG (g := 4) (p := isErr) (by simp [tabs])
  obtain ⟨cs5, ⟨t5, p5, e5⟩, h5⟩ := glob_cell hG (g := 5) (p := isErr) (by simp [tabs])
  refine (readDec_raw s hs w (pow10_is w X hG) ⟨t4, p4, h4 _ e4⟩ ⟨t5, p5, h5 _ e5⟩).mono ?_
  rintro e w' ⟨rfl, hB⟩
  rw [readDec_eq]
  refine ⟨_, rfl, hB, fun C' _ _ => ⟨_, rfl, rfl, fun j a hj => ?_⟩⟩
  match j with
  | 0 => cases hj; exact ⟨_, rfl, [], .int _ _, by simp⟩
  | 1 => cases hj; exact ⟨_, rfl, [], .bool _, by simp⟩
  | j + 2 => simp at hj
theorem c47 (s : ByteArray) (hs : s.size <= 1048576) : Ctr prog 47 [.one (.dat (.str s)), .one (.dat (.str ⟨#[32]⟩))] [] (.one (.own 0)) [.vec 1 true (strRows (cutB 32 s))] := by
 refine Ctr.ofNew _ fun w X C vs hC hG ha => ?_
 ·skip
  obtain ⟨v, v', rfl, ⟨S, hr⟩, S', hr'⟩ := args_two ha
  cases hr
  cases hr'
  obtain ⟨cs, ⟨m, e1⟩, h1⟩ := glob_cell hG (g := 1) (p := isInt) (by simp [tabs])
  refine (Any.strings_Split YtmgemgeeoconbaaDoor.lays146 (by kernel_rfl) s ⟨#[32]⟩ m w (by omega) (h1 _ e1) (by decide)).mono ?_
  rintro e w' ⟨rfl, rfl⟩
  have hlen : Lib.countB s ⟨#[32]⟩ + 1 = (cutB 32 s).length := by rw [<- split_cut, Lib.splitB_all _ (by decide) 0 _ s rfl]
  rw [hlen, split_cut]
  exact ⟨_, [], rfl, by rw [List.append_nil]⟩
theorem c50 (s : ByteArray) (hs : s.size <= 1048576) : Ctr prog 50 [.one (.dat (.str s)), .one (.dat (.str ⟨#[59]⟩)), .one (.dat (.int .i64 7))] [] (.one (.own 0)) [.vec 1 true (strRows (cutBK 59 (min 7 (s.size + 1) - 1) s))] := by
 refine Ctr.ofNew _ fun w X C vs hC hG ha => ?_
 ·skip
  obtain ⟨v, v', v'', rfl, ⟨S, hr⟩, ⟨S', hr'⟩, S'', hr''⟩ := args_three ha
  cases hr
  cases hr'
  cases hr''
  obtain ⟨cs, ⟨m, e1⟩, h1⟩ := glob_cell hG (g := 1) (p := isInt) (by simp [tabs])
  refine (Any.strings_SplitN YtmgemgeeoconbaaDoor.lays147 (by kernel_rfl) s ⟨#[59]⟩ 7 m w (by omega) (h1 _ e1) (by decide) (by decide) (by decide)).mono ?_
  rintro e w' ⟨rfl, rfl⟩
  rw [splitB_cut]
  have hle : (cutBK 59 (min 7 (s.size + 1) - 1) s).length <= min 7 (s.size + 1) := by
   have := Lib.splitB_length_le ⟨#[59]⟩ 0 (min 7 (s.size + 1) - 1) s
   rw [splitB_cut] at this
   omega
  refine ⟨YtmgemgeeoconbaaDoor.lays147_ren.t 9, List.replicate (min 7 (s.size + 1) - (cutBK 59 (min 7 (s.size + 1) - 1) s).length) ByteArray.empty, ?_, ?_⟩
  ·rw [List.length_replicate]; congr 2; omega
  ·unfold Lib.cellsOf
   rw [List.map_append, List.map_replicate]
theorem dig_lt {l : List UInt8} {i : Nat} : dval 0 ((l.take i).filter fun c => decide (isD c)) < 10 ^ i := by
 have h := dval_lt ((l.take i).filter fun c => decide (isD c)) 0 (fun c hc => of_decide_eq_true (List.mem_filter.1 hc).2)
 rw [Nat.zero_add, Nat.one_mul] at h
 refine Nat.lt_of_lt_of_le h (Nat.pow_le_pow_right (by decide) ?_)
 refine Nat.le_trans (List.length_filter_le _ _) ?_
 rw [List.length_take]; exact Nat.min_le_left ..
theorem data_len (s : ByteArray) : s.data.toList.length = s.size := Array.length_toList
theorem take_snoc {α : Type} {l : List α} {i : Nat} (h : i < l.length) : l.take (i + 1) = l.take i ++ [l[i]] := List.take_succ_eq_append_getElem h
theorem extract_list (s : ByteArray) (a b : Nat) : (s.extract a b).data.toList = (s.data.toList.drop a).take (b - a) := by
 rw [Lib.extract_data]
theorem c61 (s : ByteArray) (hs : s.size <= 1048576) : Ctr prog 61 [.one (.dat (.str s))] [] (.tup [.one (.dat (.int .i64 (readDec s).1)), .one (.dat (.bool (readDec s).2))]) [] := by
 have hmx : maxLen = 9223372036854775807 := rfl
 have hsl := data_len s
 refine Ctr.bd mixed func61 rfl ?_
 refine evl ?_
 refine LoopK_intro (fun zn zs => ∃ (i : Nat) (n : Nat) (k : Nat), i <= min s.size 11 /\ zn = min s.size 11 - i /\ (n = dval 0 ((s.data.toList.take i).filter fun c => decide (isD c)) /\ k = ((s.data.toList.take i).filter fun c => decide (isD c)).length) /\ zs = mkSt [(6, .one (.dat (.int .i64 i))), (4, .one (.dat (.int .i64 n))), (5, .one (.dat (.int .i64 k))), (0, .one (.dat (.str s)))] []) (min s.size 11) _
  (Ent.wk []) ⟨0, 0, 0, by omega, by omega, ⟨rfl, rfl⟩, rfl⟩ ?_
 rintro zn zs ⟨i, n, k, hi, rfl, hinv, rfl⟩ K hK
 rcases Nat.lt_or_ge i (min s.size 11) with hlt | hge
 ·have hdi : decide ((i : Int) < ((min s.size 11 : Nat) : Int)) = true := decide_eq_true (by omega)
  have hw := wrap_succ hlt (by omega)
  have hi1 : i < s.size := by omega
  have hd1 : decide ((i : Int) < (s.size : Int)) = true := decide_eq_true (by omega)
  have hd2 : decide ((i : Int) < 11) = true := decide_eq_true (by omega)
  have hil : i < s.data.toList.length := by omega
  have hg : s.data.toList.getD i 0 = s.data.toList[i] := by rw [List.getD_eq_getElem?_getD, List.getElem?_eq_getElem hil]; rfl
  obtain ⟨i1, i2⟩ := hinv
  have hb : n < 10 ^ i := by rw [i1]; exact dig_lt
  have hb2 : n < 10000000000 := Nat.lt_of_lt_of_le hb (Nat.pow_le_pow_right (n := 10) (by decide) (show i <= 10 by omega))
  have hk : k <= i := by
   rw [i2]; refine Nat.le_trans (List.length_filter_le _ _) ?_
   rw [List.length_take]; exact Nat.min_le_left ..
  have ht : (s.data.toList.take (i + 1)).filter (fun c => decide (isD c)) = (s.data.toList.take i).filter (fun c => decide (isD c)) ++ (if isD s.data.toList[i] then [s.data.toList[i]] else []) := by
   rw [take_snoc hil, List.filter_append, List.filter_cons, List.filter_nil]
   by_cases hD : isD s.data.toList[i] <;> simp [hD]
  have hc255 : (s.data.toList[i]).toNat < 256 := UInt8.toNat_lt _
  generalize s.data.toList[i] = c at hg ht hc255
  by_cases hD : isD c
  ·rw [if_pos hD] at ht
   have hD' := hD
   unfold isD at hD'
   have g1 : decide ((48 : Int) <= (c.toNat : Int)) = true := decide_eq_true (by omega)
   have g2 : decide ((c.toNat : Int) <= 57) = true := decide_eq_true (by omega)
   have w1 : IntKind.u8.wrap ((c.toNat : Int) - 48) = ((c.toNat - 48 : Nat) : Int) := by
    show ((c.toNat : Int) - 48) % 256 = _
    omega
   have w2 : IntKind.i64.wrap ((c.toNat - 48 : Nat) : Int) = ((c.toNat - 48 : Nat) : Int) := wrap_id (by omega) (by omega)
   have w3 : IntKind.i64.wrap ((n : Int) * 10) = ((n * 10 : Nat) : Int) := by rw [wrap_id (by omega) (by omega)]; omega
   have w4 : IntKind.i64.wrap (((n * 10 : Nat) : Int) + ((c.toNat - 48 : Nat) : Int)) = ((n * 10 + (c.toNat - 48) : Nat) : Int) := by rw [wrap_id (by omega) (by omega)]; omega
   have w5 : IntKind.i64.wrap ((k : Int) + 1) = ((k + 1 : Nat) : Int) := by rw [wrap_id (by omega) (by omega)]; omega
   simp (maxSteps := 2000000) only [go_sem, seval, hd1, hd2, hg, g1, g2, w1, w2, w3, w4, w5, hw]
   refine scs ?_
   (apply hK
    exact ⟨min s.size 11 - (i + 1), _, by omega, Ent.wk [], i + 1, (n * 10 + (c.toNat - 48)), (k + 1), by omega, rfl, ⟨by rw [ht, dval_app, <- i1]; rfl, by rw [ht, List.length_append, <- i2]; rfl⟩, rfl⟩)
  ·rw [if_neg hD, List.append_nil] at ht
   have hg12 : (decide ((48 : Int) <= (c.toNat : Int)) = true /\ decide ((c.toNat : Int) <= 57) = false) \/ decide ((48 : Int) <= (c.toNat : Int)) = false := by
    unfold isD at hD
    rcases Nat.lt_or_ge c.toNat 48 with h | h
    ·exact .inr (decide_eq_false (by omega))
    ·exact .inl ⟨decide_eq_true (by omega), decide_eq_false (by omega)⟩
   rcases hg12 with ⟨g1, g2⟩ | g1
   ·simp (maxSteps := 2000000) only [go_sem, seval, hd1, hd2, hg, g1, g2, hw]
    refine scs ?_
    (apply hK
     exact ⟨min s.size 11 - (i + 1), _, by omega, Ent.wk [], i + 1, n, k, by omega, rfl, ⟨by rw [ht]; exact i1, by rw [ht]; exact i2⟩, rfl⟩)
   ·simp (maxSteps := 2000000) only [go_sem, seval, hd1, hd2, hg, g1, hw]
    refine scs ?_
    (apply hK
     exact ⟨min s.size 11 - (i + 1), _, by omega, Ent.wk [], i + 1, n, k, by omega, rfl, ⟨by rw [ht]; exact i1, by rw [ht]; exact i2⟩, rfl⟩)
 ·have hge' : min s.size 11 = i := by omega
  subst hge'
  have hdi : decide (((min s.size 11 : Nat) : Int) < ((min s.size 11 : Nat) : Int)) = false := by simp
  have htk : s.data.toList.take (min s.size 11) = s.data.toList.take 11 := by
   rw [<- hsl]
   rcases Nat.le_total s.data.toList.length 11 with h | h
   ·rw [Nat.min_eq_left h, List.take_length, List.take_of_length_le h]
   ·rw [Nat.min_eq_right h]
  rw [htk] at hinv
  obtain ⟨i1, i2⟩ := hinv
  have hb : n < 10 ^ 11 := by rw [i1]; exact dig_lt
  have hb2 : n < 100000000000 := hb
  obtain ⟨N, hN⟩ : ∃ N, N = numOf s.data.toList := ⟨_, rfl⟩
  have hN' : N = if s.data.toList.head? = some 45 then -(n : Int) else (n : Int) := by rw [hN, i1]; rfl
  have hNb : -100000000000 < N /\ N < 100000000000 := by rw [hN']; split <;> omega
  have hhead : (decide ((0 : Int) < (s.size : Int)) = false /\ (n : Int) = N) \/ ((0 < s.size /\ decide ((0 : Int) < (s.size : Int)) = true) /\ ((((s.data.toList.getD 0 0).toNat : Nat) : Int) == 45) = false /\ (n : Int) = N) \/
    ((0 < s.size /\ decide ((0 : Int) < (s.size : Int)) = true) /\ ((((s.data.toList.getD 0 0).toNat : Nat) : Int) == 45) = true /\ IntKind.i64.wrap (0 - (n : Int)) = N) := by
   rcases Nat.eq_zero_or_pos s.size with h0 | h0
   ·refine .inl ⟨decide_eq_false (by omega), ?_⟩
    rw [hN', List.eq_nil_of_length_eq_zero (by omega : s.data.toList.length = 0)]; rfl
   ·cases hd : s.data.toList with
    | nil => rw [hd] at hsl; simp at hsl; omega
    | cons c r =>
     rw [hd] at hN'
     simp only [List.head?_cons, Option.some.injEq] at hN'
     show _ \/ (_ /\ (((c.toNat : Nat) : Int) == 45) = false /\ _) \/ (_ /\ (((c.toNat : Nat) : Int) == 45) = true /\ _)
     by_cases hc : c = 45
     ·rw [if_pos hc] at hN'
      subst hc
      exact .inr (.inr ⟨⟨h0, decide_eq_true (by omega)⟩, rfl, by rw [wrap_id (by omega) (by omega), hN']; omega⟩)
     ·rw [if_neg hc] at hN'
      refine .inr (.inl ⟨⟨h0, decide_eq_true (by omega)⟩, ?_, hN'.symm⟩)
      rw [beq_eq_false_iff_ne]
      intro e
      apply hc
      apply UInt8.toNat_inj.1
      show c.toNat = 45
      omega
  have hx : decide (((min s.size 11 : Nat) : Int) < (s.size : Int)) = false \/ (decide (((min s.size 11 : Nat) : Int) < (s.size : Int)) = true /\ decide (((min s.size 11 : Nat) : Int) < 11) = false) := by
   rcases Nat.lt_or_ge 11 s.size with h | h
   ·exact .inr ⟨decide_eq_true (by omega), decide_eq_false (by omega)⟩
   ·exact .inl (decide_eq_false (by omega))
  have hcall := c31 N (by omega) (by omega)
  have hres : readDec s = if 9 < k \/ 10 < s.size \/ itoaB N ≠ s then (0, false) else (N, true) := by rw [readDec, i2, hN]; rfl
  have hfin : decide ((9 : Int) < (k : Int)) = true /\ readDec s = (0, false) \/ decide ((9 : Int) < (k : Int)) = false /\ decide ((10 : Int) < (s.size : Int)) = true /\ readDec s = (0, false) \/
    decide ((9 : Int) < (k : Int)) = false /\ decide ((10 : Int) < (s.size : Int)) = false /\ ((itoaB N).toList == s.toList) = false /\ readDec s = (0, false) \/
    decide ((9 : Int) < (k : Int)) = false /\ decide ((10 : Int) < (s.size : Int)) = false /\ ((itoaB N).toList == s.toList) = true /\ readDec s = (N, true) := by
   by_cases h1 : 9 < k
   ·exact .inl ⟨decide_eq_true (by omega), by rw [hres, if_pos (.inl h1)]⟩
   ·by_cases h2 : 10 < s.size
    ·exact .inr (.inl ⟨decide_eq_false (by omega), decide_eq_true (by omega), by rw [hres, if_pos (.inr (.inl h2))]⟩)
    ·by_cases h3 : itoaB N = s
     ·refine .inr (.inr (.inr ⟨decide_eq_false (by omega), decide_eq_false (by omega), by rw [h3, beq_self_eq_true], ?_⟩))
      rw [hres, if_neg (by rintro (h | h | h); exact h1 h; exact h2 h; exact h h3)]
     ·refine .inr (.inr (.inl ⟨decide_eq_false (by omega), decide_eq_false (by omega), ?_, by rw [hres, if_pos (.inr (.inr h3))]⟩))
      rw [beq_eq_false_iff_ne, ByteArray.toList_eq, ByteArray.toList_eq]
      intro e
      exact h3 (by rw [<- bs_data s, <- e, bs_data])
  rcases hx with hd1 | ⟨hd1, hd2⟩ <;> rcases hhead with ⟨z0, zn⟩ | ⟨⟨zp, z0⟩, z1, zn⟩ | ⟨⟨zp, z0⟩, z1, zn⟩ <;> rcases hfin with ⟨q1, q4⟩ | ⟨q1, q2, q4⟩ | ⟨q1, q2, q3, q4⟩ | ⟨q1, q2, q3, q4⟩
  ·refine sv11 ?_
   apply hK
   refine sv12 ?_
   refine scs ?_
   first | refine CCallK_of (.one (.dat (.str ⟨#[]⟩))) ?_ | refine CCallK_og (.one (.dat (.str ⟨#[]⟩))) ?_
   refine sv13 ?_
   refine Fin.nt results61 [] ?_ ?_ ?_ <;> try trivial
   (refine rsl ?_; try exact .intro)
   rw [q4]; exact ⟨rfl, rfl⟩
  ·refine sv11 ?_
   apply hK
   refine sv14 ?_
   refine scs ?_
   first | refine CCallK_of (.one (.dat (.str ⟨#[]⟩))) ?_ | refine CCallK_og (.one (.dat (.str ⟨#[]⟩))) ?_
   refine sv15 ?_
   refine Fin.nt results61 [] ?_ ?_ ?_ <;> try trivial
   (refine rsl ?_; try exact .intro)
   rw [q4]; exact ⟨rfl, rfl⟩
  ·refine sv11 ?_
   apply hK
   refine sv16 ?_
   refine scs ?_
   refine ck e31 (hcall) rfl ?_
   refine sv17 ?_
   refine Fin.nt results61 [] ?_ ?_ ?_ <;> try trivial
   (refine rsl ?_; try exact .intro)
   rw [q4]; exact ⟨rfl, rfl⟩
  ·refine sv11 ?_
   apply hK
   refine sv16 ?_
   refine scs ?_
   refine ck e31 (hcall) rfl ?_
   refine sv17 ?_
   refine Fin.nt results61 [] ?_ ?_ ?_ <;> try trivial
   (refine rsl ?_; try exact .intro)
   rw [q4]; exact ⟨rfl, rfl⟩
  ·refine sv11 ?_
   apply hK
   refine sv18 ?_
   refine scs ?_
   first | refine CCallK_of (.one (.dat (.str ⟨#[]⟩))) ?_ | refine CCallK_og (.one (.dat (.str ⟨#[]⟩))) ?_
   refine sv13 ?_
   refine Fin.nt results61 [] ?_ ?_ ?_ <;> try trivial
   (refine rsl ?_; try exact .intro)
   rw [q4]; exact ⟨rfl, rfl⟩
  ·refine sv11 ?_
   apply hK
   refine sv19 ?_
   refine scs ?_
   first | refine CCallK_of (.one (.dat (.str ⟨#[]⟩))) ?_ | refine CCallK_og (.one (.dat (.str ⟨#[]⟩))) ?_
   refine sv15 ?_
   refine Fin.nt results61 [] ?_ ?_ ?_ <;> try trivial
   (refine rsl ?_; try exact .intro)
   rw [q4]; exact ⟨rfl, rfl⟩
  ·refine sv11 ?_
   apply hK
   refine sv20 ?_
   refine scs ?_
   refine ck e31 (hcall) rfl ?_
   refine sv17 ?_
   refine Fin.nt results61 [] ?_ ?_ ?_ <;> try trivial
   (refine rsl ?_; try exact .intro)
   rw [q4]; exact ⟨rfl, rfl⟩
  ·refine sv11 ?_
   apply hK
   refine sv20 ?_
   refine scs ?_
   refine ck e31 (hcall) rfl ?_
   refine sv17 ?_
   refine Fin.nt results61 [] ?_ ?_ ?_ <;> try trivial
   (refine rsl ?_; try exact .intro)
   rw [q4]; exact ⟨rfl, rfl⟩
  ·refine sv11 ?_
   apply hK
   refine sv18 ?_
   refine scs ?_
   first | refine CCallK_of (.one (.dat (.str ⟨#[]⟩))) ?_ | refine CCallK_og (.one (.dat (.str ⟨#[]⟩))) ?_
   refine sv13 ?_
   refine Fin.nt results61 [] ?_ ?_ ?_ <;> try trivial
   (refine rsl ?_; try exact .intro)
   rw [q4]; exact ⟨rfl, rfl⟩
  ·refine sv11 ?_
   apply hK
   refine sv19 ?_
   refine scs ?_
   first | refine CCallK_of (.one (.dat (.str ⟨#[]⟩))) ?_ | refine CCallK_og (.one (.dat (.str ⟨#[]⟩))) ?_
   refine sv15 ?_
   refine Fin.nt results61 [] ?_ ?_ ?_ <;> try trivial
   (refine rsl ?_; try exact .intro)
   rw [q4]; exact ⟨rfl, rfl⟩
  ·refine sv11 ?_
   apply hK
   refine sv20 ?_
   refine scs ?_
   refine ck e31 (hcall) rfl ?_
   refine sv17 ?_
   refine Fin.nt results61 [] ?_ ?_ ?_ <;> try trivial
   (refine rsl ?_; try exact .intro)
   rw [q4]; exact ⟨rfl, rfl⟩
  ·refine sv11 ?_
   apply hK
   refine sv20 ?_
   refine scs ?_
   refine ck e31 (hcall) rfl ?_
   refine sv17 ?_
   refine Fin.nt results61 [] ?_ ?_ ?_ <;> try trivial
   (refine rsl ?_; try exact .intro)
   rw [q4]; exact ⟨rfl, rfl⟩
  ·refine sv21 ?_
   apply hK
   refine sv12 ?_
   refine scs ?_
   first | refine CCallK_of (.one (.dat (.str ⟨#[]⟩))) ?_ | refine CCallK_og (.one (.dat (.str ⟨#[]⟩))) ?_
   refine sv13 ?_
   refine Fin.nt results61 [] ?_ ?_ ?_ <;> try trivial
   (refine rsl ?_; try exact .intro)
   rw [q4]; exact ⟨rfl, rfl⟩
  ·refine sv21 ?_
   apply hK
   refine sv14 ?_
   refine scs ?_
   first | refine CCallK_of (.one (.dat (.str ⟨#[]⟩))) ?_ | refine CCallK_og (.one (.dat (.str ⟨#[]⟩))) ?_
   refine sv15 ?_
   refine Fin.nt results61 [] ?_ ?_ ?_ <;> try trivial
   (refine rsl ?_; try exact .intro)
   rw [q4]; exact ⟨rfl, rfl⟩
  ·refine sv21 ?_
   apply hK
   refine sv16 ?_
   refine scs ?_
   refine ck e31 (hcall) rfl ?_
   refine sv17 ?_
   refine Fin.nt results61 [] ?_ ?_ ?_ <;> try trivial
   (refine rsl ?_; try exact .intro)
   rw [q4]; exact ⟨rfl, rfl⟩
  ·refine sv21 ?_
   apply hK
   refine sv16 ?_
   refine scs ?_
   refine ck e31 (hcall) rfl ?_
   refine sv17 ?_
   refine Fin.nt results61 [] ?_ ?_ ?_ <;> try trivial
   (refine rsl ?_; try exact .intro)
   rw [q4]; exact ⟨rfl, rfl⟩
  ·refine sv21 ?_
   apply hK
   refine sv18 ?_
   refine scs ?_
   first | refine CCallK_of (.one (.dat (.str ⟨#[]⟩))) ?_ | refine CCallK_og (.one (.dat (.str ⟨#[]⟩))) ?_
   refine sv13 ?_
   refine Fin.nt results61 [] ?_ ?_ ?_ <;> try trivial
   (refine rsl ?_; try exact .intro)
   rw [q4]; exact ⟨rfl, rfl⟩
  ·refine sv21 ?_
   apply hK
   refine sv19 ?_
   refine scs ?_
   first | refine CCallK_of (.one (.dat (.str ⟨#[]⟩))) ?_ | refine CCallK_og (.one (.dat (.str ⟨#[]⟩))) ?_
   refine sv15 ?_
   refine Fin.nt results61 [] ?_ ?_ ?_ <;> try trivial
   (refine rsl ?_; try exact .intro)
   rw [q4]; exact ⟨rfl, rfl⟩
  ·refine sv21 ?_
   apply hK
   refine sv20 ?_
   refine scs ?_
   refine ck e31 (hcall) rfl ?_
   refine sv17 ?_
   refine Fin.nt results61 [] ?_ ?_ ?_ <;> try trivial
   (refine rsl ?_; try exact .intro)
   rw [q4]; exact ⟨rfl, rfl⟩
  ·refine sv21 ?_
   apply hK
   refine sv20 ?_
   refine scs ?_
   refine ck e31 (hcall) rfl ?_
   refine sv17 ?_
   refine Fin.nt results61 [] ?_ ?_ ?_ <;> try trivial
   (refine rsl ?_; try exact .intro)
   rw [q4]; exact ⟨rfl, rfl⟩
  ·refine sv21 ?_
   apply hK
   refine sv18 ?_
   refine scs ?_
   first | refine CCallK_of (.one (.dat (.str ⟨#[]⟩))) ?_ | refine CCallK_og (.one (.dat (.str ⟨#[]⟩))) ?_
   refine sv13 ?_
   refine Fin.nt results61 [] ?_ ?_ ?_ <;> try trivial
   (refine rsl ?_; try exact .intro)
   rw [q4]; exact ⟨rfl, rfl⟩
  ·refine sv21 ?_
   apply hK
   refine sv19 ?_
   refine scs ?_
   first | refine CCallK_of (.one (.dat (.str ⟨#[]⟩))) ?_ | refine CCallK_og (.one (.dat (.str ⟨#[]⟩))) ?_
   refine sv15 ?_
   refine Fin.nt results61 [] ?_ ?_ ?_ <;> try trivial
   (refine rsl ?_; try exact .intro)
   rw [q4]; exact ⟨rfl, rfl⟩
  ·refine sv21 ?_
   apply hK
   refine sv20 ?_
   refine scs ?_
   refine ck e31 (hcall) rfl ?_
   refine sv17 ?_
   refine Fin.nt results61 [] ?_ ?_ ?_ <;> try trivial
   (refine rsl ?_; try exact .intro)
   rw [q4]; exact ⟨rfl, rfl⟩
  ·refine sv21 ?_
   apply hK
   refine sv20 ?_
   refine scs ?_
   refine ck e31 (hcall) rfl ?_
   refine sv17 ?_
   refine Fin.nt results61 [] ?_ ?_ ?_ <;> try trivial
   (refine rsl ?_; try exact .intro)
   rw [q4]; exact ⟨rfl, rfl⟩
def wd (ws : List ByteArray) (i : Nat) : ByteArray := ws.getD i ByteArray.empty
theorem strRow_get {ws : List ByteArray} {i : Nat} (h : i < ws.length) : (strRows ws).getD i [] = [D.str (wd ws i)] := by
 unfold strRows wd
 rw [List.getD_eq_getElem?_getD, List.getD_eq_getElem?_getD, List.getElem?_map, List.getElem?_eq_getElem h]; rfl
theorem numAt_wd {ws : List ByteArray} {i : Nat} (h : i < ws.length) : numAt ws i = (readDec (wd ws i)).1 := by
 unfold numAt wd
 rw [List.getD_eq_getElem?_getD, List.getElem?_eq_getElem h]; rfl
theorem numAt_out {ws : List ByteArray} {i : Nat} (h : ws.length <= i) : numAt ws i = 0 := by
 unfold numAt
 rw [List.getElem?_eq_none h]
theorem numAt_drop (ws : List ByteArray) (k i : Nat) : numAt (ws.drop k) i = numAt ws (k + i) := by unfold numAt; rw [List.getElem?_drop]
theorem strRows_drop (ws : List ByteArray) (k : Nat) : (strRows ws).drop k = strRows (ws.drop k) := by unfold strRows; rw [List.map_drop]
theorem strRows_take (ws : List ByteArray) (k : Nat) : (strRows ws).take k = strRows (ws.take k) := by unfold strRows; rw [List.map_take]
theorem wd_mem {ws : List ByteArray} {i : Nat} (h : i < ws.length) : wd ws i ∈ ws := by
 unfold wd
 rw [List.getD_eq_getElem?_getD, List.getElem?_eq_getElem h]; exact List.getElem_mem h
theorem cutG_size (c : UInt8) : ∀ (l cur : List UInt8), ∀ w ∈ cutG c l cur, w.length <= cur.length + l.length
 | [], cur, w, h => by simp [cutG] at h; subst h; simp
 | x :: l, cur, w, h => by
  rw [cutG] at h
  split at h
  ·rw [List.mem_cons] at h
   rcases h with rfl | h
   ·simp
   ·have := cutG_size c l [] w h
    simp only [List.length_nil, List.length_cons] at this ⊢; omega
  ·have := cutG_size c l _ w h
   simp only [List.length_append, List.length_cons, List.length_nil] at this ⊢; omega
theorem cutK_size (c : UInt8) : ∀ (l : List UInt8) (k : Nat) (cur : List UInt8), ∀ w ∈ cutK c k l cur, w.length <= cur.length + l.length
 | [], k, cur, w, h => by simp [cutK] at h; subst h; simp
 | x :: l, 0, cur, w, h => by simp [cutK] at h; subst h; simp
 | x :: l, k + 1, cur, w, h => by
  rw [cutK] at h
  split at h
  ·rw [List.mem_cons] at h
   rcases h with rfl | h
   ·simp
   ·have := cutK_size c l k [] w h
    simp only [List.length_nil, List.length_cons] at this ⊢; omega
  ·have := cutK_size c l (k + 1) _ w h
   simp only [List.length_append, List.length_cons, List.length_nil] at this ⊢; omega
theorem cutB_size {c : UInt8} {s w : ByteArray} (h : w ∈ cutB c s) : w.size <= s.size := by
 obtain ⟨p, hp, rfl⟩ := List.mem_map.1 h
 have := cutG_size c _ _ p hp
 rw [data_len] at this
 rw [bs_size]; simpa using this
theorem cutBK_size {c : UInt8} {k : Nat} {s w : ByteArray} (h : w ∈ cutBK c k s) : w.size <= s.size := by
 obtain ⟨p, hp, rfl⟩ := List.mem_map.1 h
 have := cutK_size c _ _ _ p hp
 rw [data_len] at this
 rw [bs_size]; simpa using this
theorem cutB_pos (c : UInt8) (s : ByteArray) : 0 < (cutB c s).length := by rw [cutB_length]; omega
theorem cutB_head {w t : List UInt8} {s : ByteArray} (hs : s.data.toList = w ++ t) (h : (32 : UInt8) ∉ w) (ht : t = [] \/ ∃ r, t = 32 :: r) : wd (cutB 32 s) 0 = bs w := by
 unfold wd cutB
 rw [hs]
 rcases ht with rfl | ⟨r, rfl⟩
 ·rw [List.append_nil, cutG_last [] h]; rfl
 ·rw [cutG_word [] r h]; rfl
theorem decsB_head : ∀ l : List Int, (decsB l).data.toList = [] \/ ∃ r, (decsB l).data.toList = 32 :: r
 | [] => .inl rfl
 | x :: l => .inr ⟨_, by unfold decsB; rw [bs_list, List.flatMap_cons, List.cons_append]⟩
theorem app_list (a b : ByteArray) : (a ++ b).data.toList = a.data.toList ++ b.data.toList := by
 rw [<- bs_data a, <- bs_data b, bs_app]; rfl
def cmdOf (s : ByteArray) (k : Int) : Cmd := ⟨k, numAt (cutB 32 s) 1, numAt (cutB 32 s) 2⟩
def hitCmd (s : ByteArray) (k : Int) : Bool := !(s.toList == (⟨#[]⟩ : ByteArray).toList) && (showCmd k (numAt (cutB 32 s) 1) (numAt (cutB 32 s) 2)).toList == s.toList
def readCmd (s : ByteArray) : Cmd × Bool := match [1, 2, 3, 4].find? (hitCmd s) with
 | some k => (cmdOf s k, true)
 | none => (⟨0, 0, 0⟩, false)
theorem cmdW_list (k : Int) : (32 : UInt8) ∉ (cmdW k).data.toList := by
 unfold cmdW
 cases k == 1 <;> cases k == 2 <;> cases k == 3 <;> decide
theorem cmdW_inj {j k : Int} (hj : 1 <= j /\ j <= 4) (hk : 1 <= k /\ k <= 4) (h : cmdW j = cmdW k) : j = k := by
 have hj' : j = 1 \/ j = 2 \/ j = 3 \/ j = 4 := by omega
 have hk' : k = 1 \/ k = 2 \/ k = 3 \/ k = 4 := by omega
 have h := congrArg (·.data.toList) h
 rcases hj' with rfl | rfl | rfl | rfl <;> rcases hk' with rfl | rfl | rfl | rfl <;> first | rfl | exact absurd h (by decide)
theorem toListN {s : ByteArray} (h : (!(s.toList == (⟨#[]⟩ : ByteArray).toList)) = true) : s ≠ ⟨#[]⟩ := by
 rintro rfl
 rw [beq_self_eq_true] at h
 cases h
theorem toListE {a b : ByteArray} (h : (a.toList == b.toList) = true) : a = b := by
 have h := beq_iff_eq.1 h
 rw [ByteArray.toList_eq, ByteArray.toList_eq] at h
 rw [<- bs_data a, h, bs_data]
theorem hitCmd_word {s : ByteArray} {k : Int} (h : hitCmd s k = true) : (1 <= k /\ k <= 4) /\ wd (cutB 32 s) 0 = cmdW k := by
 unfold hitCmd at h
 rw [Bool.and_eq_true] at h
 have h1 := toListN h.1
 have h2 := toListE h.2
 generalize numAt (cutB 32 s) 1 = x at h2
 generalize numAt (cutB 32 s) 2 = v at h2
 unfold showCmd at h2
 cases hok : cmdOk k x v with
 | false => rw [hok] at h2; exact absurd h2.symm h1
 | true =>
  rw [hok] at h2
  obtain ⟨h3, _⟩ := cmdOk_in hok
  refine ⟨by omega, ?_⟩
  have fin : ∀ t : List UInt8, (t = [] \/ ∃ r, t = 32 :: r) -> s.data.toList = (cmdW k).data.toList ++ t -> wd (cutB 32 s) 0 = cmdW k := fun t ht hs => by
   rw [cutB_head hs (cmdW_list k) ht, bs_data]
  simp only [cond_true] at h2
  cases h4 : (k == 2 || k == 4) with
  | true =>
   rw [h4] at h2
   refine fin _ (decsB_head [x, v]) ?_
   rw [<- h2, cond_true, app_list]
  | false =>
   rw [h4] at h2
   refine fin _ (decsB_head [x]) ?_
   rw [<- h2, cond_false, app_list]
theorem hitCmd_one {s : ByteArray} {j k : Int} (hj : hitCmd s j = true) (hk : hitCmd s k = true) : j = k := by
 obtain ⟨a, b⟩ := hitCmd_word hj
 obtain ⟨c, d⟩ := hitCmd_word hk
 exact cmdW_inj a c (b.symm.trans d)
theorem readCmd_hit {s : ByteArray} {k : Int} (h : hitCmd s k = true) : readCmd s = (cmdOf s k, true) := by
 obtain ⟨hk, _⟩ := hitCmd_word h
 unfold readCmd
 cases hf : [(1 : Int), 2, 3, 4].find? (hitCmd s) with
 | some j =>
  have hj := List.find?_some hf
  rw [hitCmd_one hj h]
 | none =>
  rw [List.find?_eq_none] at hf
  exact absurd h (hf k (by simp; omega))
theorem readCmd_miss {s : ByteArray} (h : ∀ k : Int, 1 <= k -> k <= 4 -> hitCmd s k = false) : readCmd s = (⟨0, 0, 0⟩, false) := by
 unfold readCmd
 cases hf : [(1 : Int), 2, 3, 4].find? (hitCmd s) with
 | some j =>
  have hj := List.find?_some hf
  obtain ⟨hk, _⟩ := hitCmd_word hj
  rw [h j hk.1 hk.2] at hj
  cases hj
 | none => rfl
def ixB (ws : List ByteArray) (x : ByteArray) : Int := match ws with
 | [] => -1
 | w :: r => if x.toList == w.toList then 0 else if ixB r x == -1 then -1 else ixB r x + 1
def wordsB : List ByteArray := [⟨#[103, 101, 116]⟩, ⟨#[112, 117, 116]⟩, ⟨#[100, 101, 108]⟩, ⟨#[97, 100, 100]⟩]
theorem ixB_hit {w : ByteArray} {k : Int} (hw : w = cmdW k) (hk : 1 <= k /\ k <= 4) : ixB wordsB w + 1 = k := by
 subst hw
 have hk' : k = 1 \/ k = 2 \/ k = 3 \/ k = 4 := by omega
 rcases hk' with rfl | rfl | rfl | rfl <;> simp only [ixB, wordsB, ByteArray.toList_eq] <;> decide
theorem readCmd_kind (s : ByteArray) : readCmd s = if hitCmd s (ixB wordsB (wd (cutB 32 s) 0) + 1) = true then (cmdOf s (ixB wordsB (wd (cutB 32 s) 0) + 1), true) else (⟨0, 0, 0⟩, false) := by
 cases h : hitCmd s (ixB wordsB (wd (cutB 32 s) 0) + 1) with
 | true => rw [if_pos rfl, readCmd_hit h]
 | false =>
  rw [if_neg (by decide)]
  apply readCmd_miss
  intro k h1 h2
  cases hk : hitCmd s k with
  | false => rfl
  | true =>
   obtain ⟨a, b⟩ := hitCmd_word hk
   rw [ixB_hit b a, hk] at h
   cases h
theorem c45 (s : ByteArray) (c : UInt8) (hs : s.size <= 1048576) : Ctr prog 45 [.one (.dat (.str s)), .one (.dat (.int .u8 (c.toNat : Int)))] [] (.one (.own 0)) [.vec 1 true (strRows (cutB c s))] := by
 have hmx : maxLen = 9223372036854775807 := rfl
 have hsl := data_len s
 refine Ctr.bd mixed func45 rfl ?_
 refine evl ?_
 refine scs ?_
 refine LoopK_intro (fun zn zs => ∃ (i : Nat) (ws : List ByteArray) (k : Nat), i <= s.size /\ zn = s.size - i /\ (k <= i /\ ws.length <= i /\ cutG c s.data.toList [] = ws.map (·.data.toList) ++ cutG c (s.data.toList.drop i) ((s.data.toList.drop k).take (i - k))) /\ zs = mkSt [(7, .one (.dat (.int .i64 i))), (5, .one (.own 0)), (6, .one (.dat (.int .i64 k))), (0, .one (.dat (.str s))), (1, .one (.dat (.int .u8 (c.toNat : Int))))] [.vec 1 true (strRows ws)]) (s.size) _
  (Ent.wk [0]) ⟨0, [], 0, by omega, by omega, ⟨Nat.le_refl _, Nat.le_refl _, rfl⟩, rfl⟩ ?_
 rintro zn zs ⟨i, ws, k, hi, rfl, hinv, rfl⟩ K hK
 rcases Nat.lt_or_ge i (s.size) with hlt | hge
 ·have hdi : decide ((i : Int) < ((s.size : Nat) : Int)) = true := decide_eq_true (by omega)
  have hw := wrap_succ hlt (by omega)
  obtain ⟨hki, hwl, hcut⟩ := hinv
  have hil : i < s.data.toList.length := by omega
  have hg : s.data.toList.getD i 0 = s.data.toList[i] := by rw [List.getD_eq_getElem?_getD, List.getElem?_eq_getElem hil]; rfl
  rw [List.drop_eq_getElem_cons hil, cutG] at hcut
  cases hx : (s.data.toList[i] == c) with
  | true =>
   have hgx : (((s.data.toList[i].toNat : Nat) : Int) == (c.toNat : Int)) = true := by rw [beq_iff_eq.1 hx]; exact beq_self_eq_true _
   rw [hx, if_pos rfl] at hcut
   simp (maxSteps := 2000000) only [go_sem, seval, hdi, hg, hgx, hw, strRows_len, strRows_snoc]
   refine scs ?_
   (apply hK
    exact ⟨s.size - (i + 1), _, by omega, Ent.wk [2], i + 1, (ws ++ [s.extract k i]), (i + 1), by omega, rfl, ⟨Nat.le_refl _, by rw [List.length_append, List.length_cons, List.length_nil]; omega, by rw [hcut, List.map_append, List.map_cons, List.map_nil, extract_list, Nat.sub_self, List.take_zero, List.append_assoc]; rfl⟩, rfl⟩)
  | false =>
   have hgx : (((s.data.toList[i].toNat : Nat) : Int) == (c.toNat : Int)) = false := by
    rw [beq_eq_false_iff_ne] at hx ⊢
    intro e
    exact hx (UInt8.toNat_inj.1 (by omega))
   rw [hx] at hcut
   simp only [Bool.false_eq_true, if_false] at hcut
   simp (maxSteps := 2000000) only [go_sem, seval, hdi, hg, hgx, hw]
   refine scs ?_
   (apply hK
    exact ⟨s.size - (i + 1), _, by omega, Ent.wk [0], i + 1, ws, k, by omega, rfl, ⟨by omega, by omega, by rw [hcut, show i + 1 - k = (i - k) + 1 by omega, take_snoc (by rw [List.length_drop]; omega), List.getElem_drop]; congr 3; simp only [show k + (i - k) = i by omega]⟩, rfl⟩)
 ·have hge' : s.size = i := by omega
  subst hge'
  have hdi : decide (((s.size : Nat) : Int) < ((s.size : Nat) : Int)) = false := by simp
  obtain ⟨hki, hwl, hcut⟩ := hinv
  rw [<- hsl, List.drop_length, cutG, hsl, <- extract_list] at hcut
  have hfin : cutB c s = ws ++ [s.extract k s.size] := by
   unfold cutB
   rw [hcut, List.map_append, List.map_map, List.map_cons, List.map_nil, bs_data]
   congr 1
   conv => rhs; rw [<- List.map_id ws]
   exact List.map_congr_left fun x _ => bs_data x
  refine sv2 ?_
  apply hK
  simp (maxSteps := 2000000) only [go_sem, seval, strRows_len, strRows_snoc]
  refine scs ?_
  refine Fin.nt results45 [2] ?_ ?_ ?_ <;> try trivial
  all_goals (rw [hfin]; simp [objsLe, envLe, find, St.obj, AObj.renF, AV.renF, AV.renF1, Leaf.renF, LowAll, AV.Low, AV.Low1, Leaf.Low, AObj.Low, Ptr.renF, Ptr.Low])
theorem c46 (ws : List ByteArray) (hw : ∀ w ∈ ws, w.size <= 1048576) (i : Nat) (a : Int) (ha : a = i) : Ctr prog 46 [.one (.dat (.sl 1 (strRows ws))), .one (.dat (.int .i64 a))] [] (.one (.dat (.int .i64 (numAt ws i)))) [] := by
 subst ha
 refine Ctr.bd mixed func46 rfl ?_
 rcases Nat.lt_or_ge i ws.length with h | h
 ·have hd : decide ((ws.length : Int) <= (i : Int)) = false := decide_eq_false (by omega)
  have hr := strRow_get h
  simp (maxSteps := 2000000) only [go_sem, seval, strRows_len, hd, hr]
  refine scs ?_
  refine ck e61 (c61 (wd ws i) (hw _ (wd_mem h))) rfl ?_
  refine evl ?_
  refine Fin.nt results46 [] ?_ ?_ ?_ <;> try trivial
  (refine rsl ?_; try exact .intro)
  rw [numAt_wd h]
 ·have hd : decide ((ws.length : Int) <= (i : Int)) = true := decide_eq_true (by omega)
  simp (maxSteps := 2000000) only [go_sem, seval, strRows_len, hd]
  refine Fin.nt results46 [] ?_ ?_ ?_ <;> try trivial
  (refine rsl ?_; try exact .intro)
  rw [numAt_out h]
theorem c48 (ws : List ByteArray) (hz : ∀ w ∈ ws, w.size <= 1048576) (hl : ws.length <= 1048577) : Ctr prog 48 [.one (.dat (.sl 1 (strRows ws)))] [] (.agg [.dat (.int .i64 (numAt ws 0)), .dat (.int .i64 (numAt ws 1)), .dat (.int .i64 (numAt ws 2))]) [] := by
 have hmx : maxLen = 9223372036854775807 := rfl
 refine Ctr.bd mixed func48 rfl ?_
 obtain ⟨m, hmm⟩ : ∃ m, m = min ws.length 3 := ⟨_, rfl⟩
 have hm : (if (3 : Int) < (ws.length : Int) then (3 : Int) else (ws.length : Int)) = (m : Int) := by split <;> omega
 have htl : (ws.take m).length = m := by rw [List.length_take]; omega
 simp (maxSteps := 2000000) only [go_sem, seval, strRows_len, hm, Int.toNat_natCast, strRows_take, Nat.sub_zero, List.drop_zero, htl]
 refine scs ?_
 refine LoopK_intro (fun zn zs => ∃ (i : Nat) (a : Int) (b : Int) (c : Int), i <= m /\ zn = m - i /\ (a = (if 0 < i then numAt ws 0 else 0) /\ b = (if 1 < i then numAt ws 1 else 0) /\ c = (if 2 < i then numAt ws 2 else 0)) /\ zs = mkSt [(13, .one (.dat (.int .i64 i))), (12, .one (.dat (.int .i64 (m)))), (11, .one (.dat (.sl 1 (strRows (ws.take m))))), (2, .one (.ptr (.own 0 0 0))), (3, .one (.ptr (.own 1 0 0))), (0, .one (.dat (.sl 1 (strRows ws))))] [.box [.dat (.int .i64 0), .dat (.int .i64 0), .dat (.int .i64 0)], .box [.dat (.int .i64 a), .dat (.int .i64 b), .dat (.int .i64 c)]]) (m) _
  (Ent.wk [0, 1]) ⟨0, 0, 0, 0, by omega, by omega, ⟨rfl, rfl, rfl⟩, rfl⟩ ?_
 rintro zn zs ⟨i, a, b, c, hi, rfl, hinv, rfl⟩ K hK
 rcases Nat.lt_or_ge i (m) with hlt | hge
 ·have hdi : decide ((i : Int) < ((m : Nat) : Int)) = true := decide_eq_true (by omega)
  have hw := wrap_succ hlt (by omega)
  have hli : i < ws.length := by omega
  have hlt2 : i < (ws.take m).length := by omega
  have hr : (strRows (ws.take m)).getD i [] = [D.str (wd ws i)] := by
   rw [strRow_get hlt2]
   unfold wd
   rw [List.getD_eq_getElem?_getD, List.getD_eq_getElem?_getD, List.getElem?_take, if_pos (by omega)]
  have hc := c63 (wd ws i) (hz _ (wd_mem hli))
  obtain ⟨ia, ib, ic⟩ := hinv
  have hi3 : i = 0 \/ i = 1 \/ i = 2 := by omega
  have hset : ∀ y : Int, List.take i [Leaf.dat (D.int .i64 a), Leaf.dat (D.int .i64 b), Leaf.dat (D.int .i64 c)] ++ [Leaf.dat (D.int .i64 y)] ++ List.drop i [Leaf.dat (D.int .i64 b), Leaf.dat (D.int .i64 c)] = [Leaf.dat (D.int .i64 (if i = 0 then y else a)), Leaf.dat (D.int .i64 (if i = 1 then y else b)), Leaf.dat (D.int .i64 (if i = 2 then y else c))] := fun y => by
   rcases hi3 with rfl | rfl | rfl <;> rfl
  simp (maxSteps := 2000000) only [go_sem, seval, hdi, hw, hr, strRows_len, htl, Int.toNat_natCast]
  refine scs ?_
  refine ck e63 (hc) rfl ?_
  simp (maxSteps := 2000000) only [go_sem, seval, hw, Int.toNat_natCast, Nat.mul_one, Nat.zero_add, hset]
  refine scs ?_
  have hnw := numAt_wd hli
  (apply hK
   exact ⟨m - (i + 1), _, by omega, Ent.wk [0, 1], i + 1, (if i = 0 then (readDec (wd ws i)).1 else a), (if i = 1 then (readDec (wd ws i)).1 else b), (if i = 2 then (readDec (wd ws i)).1 else c), by omega, rfl, by rw [ia, ib, ic, <- hnw]; rcases hi3 with rfl | rfl | rfl <;> exact ⟨rfl, rfl, rfl⟩, rfl⟩)
 ·have hge' : m = i := by omega
  subst hge'
  have hdi : decide (((m : Nat) : Int) < ((m : Nat) : Int)) = false := by simp
  obtain ⟨ia, ib, ic⟩ := hinv
  have ea : a = numAt ws 0 := by
   rw [ia]; split
   ·rfl
   ·rw [numAt_out (by omega)]
  have eb : b = numAt ws 1 := by
   rw [ib]; split
   ·rfl
   ·rw [numAt_out (by omega)]
  have ec : c = numAt ws 2 := by
   rw [ic]; split
   ·rfl
   ·rw [numAt_out (by omega)]
  simp (maxSteps := 2000000) only [go_sem, seval, hdi, htl, strRows_len]
  apply hK
  refine evl ?_
  refine Fin.nt results48 [] ?_ ?_ ?_ <;> try trivial
  (refine rsl ?_; try exact .intro)
  exact ⟨ea, eb, ec⟩
theorem ixB_none {x : ByteArray} : ∀ {ws : List ByteArray}, (∀ j, j < ws.length -> (x.toList == (wd ws j).toList) = false) -> ixB ws x = -1
 | [], _ => rfl
 | w :: r, h => by
  have h0 := h 0 (by simp)
  have ih := ixB_none (ws := r) fun j hj => h (j + 1) (by simpa using hj)
  have h0 : (x.toList == w.toList) = false := h0
  rw [ixB, h0, ih]; rfl
theorem ixB_at {x : ByteArray} : ∀ {ws : List ByteArray} {i : Nat}, i < ws.length -> (x.toList == (wd ws i).toList) = true -> (∀ j, j < i -> (x.toList == (wd ws j).toList) = false) -> ixB ws x = i
 | [], i, h, _, _ => by simp at h
 | w :: r, 0, _, h, _ => by
  have h : (x.toList == w.toList) = true := h
  rw [ixB, h]; rfl
 | w :: r, i + 1, hi, h, hn => by
  have h0 : (x.toList == w.toList) = false := hn 0 (by omega)
  have ih := ixB_at (ws := r) (i := i) (by simpa using hi) h fun j hj => hn (j + 1) (by omega)
  have h1 : (((i : Nat) : Int) == -1) = false := by rw [beq_eq_false_iff_ne]; omega
  rw [ixB, h0, ih, h1]; simp
theorem c49 (ws : List ByteArray) (hl : ws.length <= 1048577) (x : ByteArray) : Ctr prog 49 [.one (.dat (.sl 1 (strRows ws))), .one (.dat (.str x))] [] (.one (.dat (.int .i64 (ixB ws x)))) [] := by
 have hmx : maxLen = 9223372036854775807 := rfl
 refine Ctr.bd mixed func49 rfl ?_
 refine sv22 ?_
 refine scs ?_
 refine LoopK_intro (fun zn zs => ∃ i : Nat, i <= ws.length /\ zn = ws.length - i /\ (∀ j, j < i -> (x.toList == (wd ws j).toList) = false) /\ zs = mkSt [(8, .one (.dat (.int .i64 i))), (7, .one (.dat (.int .i64 (ws.length)))), (0, .one (.dat (.sl 1 (strRows ws)))), (1, .one (.dat (.str x)))] []) (ws.length) _
  (Ent.wk []) ⟨0, by omega, by omega, by simp, rfl⟩ ?_
 rintro zn zs ⟨i, hi, rfl, hinv, rfl⟩ K hK
 rcases Nat.lt_or_ge i (ws.length) with hlt | hge
 ·have hdi : decide ((i : Int) < ((ws.length : Nat) : Int)) = true := decide_eq_true (by omega)
  have hw := wrap_succ hlt (by omega)
  have hr := strRow_get hlt
  cases hq : (x.toList == (wd ws i).toList) with
  | true =>
   refine sv23 ?_
   refine scs ?_
   apply hK
   refine evl ?_
   refine Fin.nt results49 [] ?_ ?_ ?_ <;> try trivial
   (refine rsl ?_; try exact .intro)
   exact (ixB_at hlt hq hinv).symm
  | false =>
   refine sv23 ?_
   refine scs ?_
   (apply hK
    exact ⟨ws.length - (i + 1), _, by omega, Ent.wk [], i + 1, by omega, rfl, fun j hj => if e : j = i then by subst e; exact hq else hinv j (by omega), rfl⟩)
 ·have hge' : ws.length = i := by omega
  subst hge'
  have hdi : decide (((ws.length : Nat) : Int) < ((ws.length : Nat) : Int)) = false := by simp
  refine sv24 ?_
  apply hK
  refine evl ?_
  refine Fin.nt results49 [] ?_ ?_ ?_ <;> try trivial
  (refine rsl ?_; try exact .intro)
  exact (ixB_none hinv).symm
theorem c20 (s : ByteArray) (hs : s.size <= 1048576) : Ctr prog 20 [.one (.dat (.str s))] [] (.tup [.agg [.dat (.int .i64 (readCmd s).1.Kind), .dat (.int .i64 (readCmd s).1.Key), .dat (.int .i64 (readCmd s).1.Val)], .one (.dat (.bool (readCmd s).2))]) [] := by
 have hmx : maxLen = 9223372036854775807 := rfl
 have hpos := cutB_pos 32 s
 have hle := cutB_le 32 s
 have hwz : ∀ w ∈ cutB 32 s, w.size <= 1048576 := fun w hw => Nat.le_trans (cutB_size hw) hs
 have hn := c46 (cutB 32 s) hwz
 have hcut := c45 s 32 hs
 refine Ctr.bd mixed func20 rfl ?_
 refine evl ?_
 refine scs ?_
 refine ck e45 (hcut) rfl ?_
 refine evl ?_
 refine scs ?_
 refine LoopK_intro (fun zn zs => ∃ (k : Int), zn = (5 - k).toNat /\ (1 <= k /\ k <= 5 /\ ∀ j : Int, 1 <= j -> j < k -> hitCmd s j = false) /\ zs = mkSt [(5, .one (.dat (.int .i64 k))), (4, .one (.own 1)), (2, .one (.ptr (.own 0 0 0))), (0, .one (.dat (.str s)))] [.box [.dat (.int .i64 0), .dat (.int .i64 0), .dat (.int .i64 0)], .vec 1 true (strRows (cutB 32 s))]) _ _
  (Ent.wk [0, 1]) ⟨1, rfl, ⟨by decide, by decide, fun j h1 h2 => absurd h1 (by omega)⟩, rfl⟩ ?_
 rintro zn zs ⟨k, rfl, hinv, rfl⟩ K hK
 obtain ⟨k1, k8, hno⟩ := hinv
 by_cases hk : k <= 4
 ·have hd : decide (k <= 4) = true := decide_eq_true hk
  have hw : IntKind.i64.wrap (k + 1) = k + 1 := wrap_id (by omega) (by omega)
  have hso := c9 k (numAt (cutB 32 s) 1) (numAt (cutB 32 s) 2)
  have hnext : hitCmd s k = false -> ∀ j : Int, 1 <= j -> j < k + 1 -> hitCmd s j = false := fun h j h1 h2 => by
   by_cases e : j = k
   ·rw [e]; exact h
   ·exact hno j h1 (by omega)
  cases hne : (s.toList == (⟨#[]⟩ : ByteArray).toList) with
  | true =>
   have hh : hitCmd s k = false := by unfold hitCmd; rw [hne]; rfl
   refine sv3 ?_
   refine scs ?_
   refine ck e46 (hn 1 1 rfl) rfl ?_
   refine evl ?_
   refine scs ?_
   refine ck e46 (hn 2 2 rfl) rfl ?_
   refine sv25 ?_
   refine scs ?_
   first | refine CCallK_of (.one (.dat (.str ⟨#[]⟩))) ?_ | refine CCallK_og (.one (.dat (.str ⟨#[]⟩))) ?_
   refine sv0 ?_
   refine scs ?_
   (apply hK
    exact ⟨_, _, by omega, Ent.wk [0, 1], (k + 1), rfl, ⟨by omega, by omega, hnext hh⟩, rfl⟩)
  | false =>
   cases hhit : ((showCmd k (numAt (cutB 32 s) 1) (numAt (cutB 32 s) 2)).toList == s.toList) with
   | true =>
    have hh : hitCmd s k = true := by unfold hitCmd; rw [hne, hhit]; rfl
    refine sv3 ?_
    refine scs ?_
    refine ck e46 (hn 1 1 rfl) rfl ?_
    refine evl ?_
    refine scs ?_
    refine ck e46 (hn 2 2 rfl) rfl ?_
    refine sv25 ?_
    refine scs ?_
    refine ck e9 (hso) rfl ?_
    refine sv26 ?_
    refine scs ?_
    apply hK
    refine evl ?_
    refine Fin.nt results20 [] ?_ ?_ ?_ <;> try trivial
    (refine rsl ?_; try exact .intro)
    rw [readCmd_hit hh]
    exact ⟨⟨rfl, rfl, rfl⟩, rfl⟩
   | false =>
    have hh : hitCmd s k = false := by unfold hitCmd; rw [hne, hhit]; rfl
    refine sv3 ?_
    refine scs ?_
    refine ck e46 (hn 1 1 rfl) rfl ?_
    refine evl ?_
    refine scs ?_
    refine ck e46 (hn 2 2 rfl) rfl ?_
    refine sv25 ?_
    refine scs ?_
    refine ck e9 (hso) rfl ?_
    simp (maxSteps := 2000000) only [go_sem, seval, hhit, hw]
    refine scs ?_
    (apply hK
     exact ⟨_, _, by omega, Ent.wk [0, 1], (k + 1), rfl, ⟨by omega, by omega, hnext hh⟩, rfl⟩)
 ·have hd : decide (k <= 4) = false := decide_eq_false hk
  refine sv3 ?_
  apply hK
  refine evl ?_
  refine Fin.nt results20 [] ?_ ?_ ?_ <;> try trivial
  (refine rsl ?_; try exact .intro)
  rw [readCmd_miss fun j h1 h2 => hno j h1 (by omega)]
  exact ⟨⟨rfl, rfl, rfl⟩, rfl⟩
theorem ixB_bound (ws : List ByteArray) (x : ByteArray) : -1 <= ixB ws x /\ ixB ws x < ws.length := by
 induction ws with
 | nil =>
  show (-1 : Int) <= -1 /\ (-1 : Int) < ((0 : Nat) : Int)
  omega
 | cons w r ih =>
  rw [ixB, List.length_cons]
  split
  ·omega
  ·split
   ·omega
   ·rename_i h
    have h1 : ixB r x ≠ -1 := fun e => h (by rw [e]; rfl)
    omega
theorem words_rows : ((wordsT.getD 0 []).map fun d => [d]) = strRows wordsB := rfl
theorem c21 (s : ByteArray) (hs : s.size <= 1048576) : Ctr prog 21 [.one (.dat (.str s))] [] (.tup [.agg [.dat (.int .i64 (readCmd s).1.Kind), .dat (.int .i64 (readCmd s).1.Key), .dat (.int .i64 (readCmd s).1.Val)], .one (.dat (.bool (readCmd s).2))]) [] := by
 have hmx : maxLen = 9223372036854775807 := rfl
 have hpos := cutB_pos 32 s
 have hle := cutB_le 32 s
 have hwz : ∀ w ∈ (cutB 32 s).drop 1, w.size <= 1048576 := fun w hw => Nat.le_trans (cutB_size (List.mem_of_mem_drop hw)) hs
 have hrd := c48 ((cutB 32 s).drop 1) hwz (by rw [List.length_drop]; omega)
 simp only [numAt_drop, Nat.reduceAdd] at hrd
 have hpart : ((strRows (cutB 32 s)).drop 1).take ((cutB 32 s).length - 1) = strRows ((cutB 32 s).drop 1) := by
  rw [strRows_drop, List.take_of_length_le (by rw [strRows_len, List.length_drop]; omega)]
 rw [<- hpart] at hrd
 have hw0 := strRow_get hpos
 have hix := c49 wordsB (by decide) (wd (cutB 32 s) 0)
 refine Ctr.bd mixed func21 rfl ?_
 refine evl ?_
 refine scs ?_
 refine ck e47 (c47 s hs) rfl ?_
 refine sv22 ?_
 refine scs ?_
 refine ck e48 (hrd) rfl ?_
 obtain ⟨y, hy⟩ : ∃ y, y = ixB wordsB (wd (cutB 32 s) 0) := ⟨_, rfl⟩
 have hyb := ixB_bound wordsB (wd (cutB 32 s) 0)
 rw [<- hy] at hix hyb
 have hyb2 : y < 4 := hyb.2
 have hwy : IntKind.i64.wrap (y + 1) = y + 1 := wrap_id (by omega) (by omega)
 have hrk := readCmd_kind s
 rw [<- hy] at hrk
 have hso := c11 (y + 1) (numAt (cutB 32 s) 1) (numAt (cutB 32 s) 2)
 simp (maxSteps := 2000000) only [go_sem, seval, tab0, hw0, strRows_len, words_rows]
 refine scs ?_
 refine ck e49 (hix) rfl ?_
 cases hne : (s.toList == (⟨#[]⟩ : ByteArray).toList) with
 | true =>
  have hh : hitCmd s (y + 1) = false := by unfold hitCmd; rw [hne]; rfl
  rw [hh, if_neg (by decide)] at hrk
  refine sv27 ?_
  repeat ((with_reducible show _ = true /\ _); refine ⟨by kernel_rfl, ?_⟩)
  refine scs ?_
  first | refine CCallK_of (.one (.dat (.str ⟨#[]⟩))) ?_ | refine CCallK_og (.one (.dat (.str ⟨#[]⟩))) ?_
  refine evl ?_
  refine Fin.nt results21 [] ?_ ?_ ?_ <;> try trivial
  (refine rsl ?_; try exact .intro)
  rw [hrk]
  exact ⟨⟨rfl, rfl, rfl⟩, rfl⟩
 | false =>
  cases hhit : ((showCmd (y + 1) (numAt (cutB 32 s) 1) (numAt (cutB 32 s) 2)).toList == s.toList) with
  | true =>
   have hh : hitCmd s (y + 1) = true := by unfold hitCmd; rw [hne, hhit]; rfl
   rw [hh, if_pos rfl] at hrk
   refine sv27 ?_
   repeat ((with_reducible show _ = true /\ _); refine ⟨by kernel_rfl, ?_⟩)
   refine scs ?_
   refine ck e11 (hso) rfl ?_
   refine sv26 ?_
   refine Fin.nt results21 [] ?_ ?_ ?_ <;> try trivial
   (refine rsl ?_; try exact .intro)
   rw [hrk]
   exact ⟨⟨rfl, rfl, rfl⟩, rfl⟩
  | false =>
   have hh : hitCmd s (y + 1) = false := by unfold hitCmd; rw [hne, hhit]; rfl
   rw [hh, if_neg (by decide)] at hrk
   refine sv27 ?_
   repeat ((with_reducible show _ = true /\ _); refine ⟨by kernel_rfl, ?_⟩)
   refine scs ?_
   refine ck e11 (hso) rfl ?_
   refine sv26 ?_
   refine Fin.nt results21 [] ?_ ?_ ?_ <;> try trivial
   (refine rsl ?_; try exact .intro)
   rw [hrk]
   exact ⟨⟨rfl, rfl, rfl⟩, rfl⟩
def readAll : List ByteArray -> List Cmd -> Option (List Cmd)
 | [], acc => some acc
 | w :: r, acc => if (readCmd w).2 then readAll r (acc ++ [(readCmd w).1]) else none
def batchOf (ws : List ByteArray) : Batch × Bool := match readAll ws [] with
 | none => (⟨false, []⟩, false)
 | some cs => bif batchOk ⟨false, cs⟩ then (⟨false, cs⟩, true) else (⟨false, []⟩, false)
def collectB : ByteArray := ⟨#[99, 111, 108, 108, 101, 99, 116]⟩
def readBatch (s : ByteArray) : Batch × Bool := bif s.toList == collectB.toList then (⟨true, []⟩, true) else batchOf (cutB 59 s)
theorem readAll_none : ∀ {ws : List ByteArray} {acc : List Cmd}, (∃ w ∈ ws, (readCmd w).2 = false) -> readAll ws acc = none
 | [], _, h => by obtain ⟨w, hw, _⟩ := h; cases hw
 | w :: r, acc, h => by
  rw [readAll]
  by_cases e : (readCmd w).2 = true
  ·rw [if_pos e]
   refine readAll_none ?_
   obtain ⟨v, hv, h2⟩ := h
   rcases List.mem_cons.1 hv with rfl | hv
   ·rw [e] at h2; cases h2
   ·exact ⟨v, hv, h2⟩
  ·rw [if_neg e]
theorem readAll_len : ∀ {ws : List ByteArray} {acc cs : List Cmd}, readAll ws acc = some cs -> cs.length = acc.length + ws.length
 | [], acc, cs, h => by cases h; rfl
 | w :: r, acc, cs, h => by
  rw [readAll] at h
  split at h
  ·have := readAll_len h
   rw [this, List.length_append, List.length_cons, List.length_cons, List.length_nil]; omega
  ·cases h
theorem itoa_semi (n : Int) : (59 : UInt8) ∉ Lib.itoa n := by
 have hd : ∀ u, (59 : UInt8) ∉ Lib.decDigits u := fun u h => by
  have := decDigits_isD u _ h
  unfold isD at this
  exact absurd this.2 (by decide)
 unfold Lib.itoa
 split
 ·intro h
  rcases List.mem_cons.1 h with h | h
  ·cases h
  ·exact hd _ h
 ·exact hd _
theorem decsB_semi (l : List Int) : (59 : UInt8) ∉ (decsB l).data.toList := by
 unfold decsB
 rw [bs_list]
 intro h
 obtain ⟨n, _, h⟩ := List.mem_flatMap.1 h
 rcases List.mem_cons.1 h with h | h
 ·cases h
 ·exact itoa_semi n h
theorem cmdW_semi (k : Int) : (59 : UInt8) ∉ (cmdW k).data.toList := by
 unfold cmdW
 cases k == 1 <;> cases k == 2 <;> cases k == 3 <;> decide
theorem showCmd_semi (k x v : Int) : (59 : UInt8) ∉ (showCmd k x v).data.toList := by
 unfold showCmd
 cases cmdOk k x v with
 | false => rw [cond_false]; intro h; cases h
 | true =>
  rw [cond_true]
  cases (k == 2 || k == 4) with
  | true =>
   rw [cond_true, app_list]
   intro h
   rcases List.mem_append.1 h with h | h
   ·exact cmdW_semi k h
   ·exact decsB_semi _ h
  | false =>
   rw [cond_false, app_list]
   intro h
   rcases List.mem_append.1 h with h | h
   ·exact cmdW_semi k h
   ·exact decsB_semi _ h
theorem readCmd_semi {w : ByteArray} (h : (59 : UInt8) ∈ w.data.toList) : (readCmd w).2 = false := by
 unfold readCmd
 cases hf : [(1 : Int), 2, 3, 4].find? (hitCmd w) with
 | none => rfl
 | some j =>
  have hj := List.find?_some hf
  unfold hitCmd at hj
  rw [Bool.and_eq_true] at hj
  have := toListE hj.2
  rw [<- this] at h
  exact absurd h (showCmd_semi _ _ _)
theorem batchOf_none {ws : List ByteArray} (h : readAll ws [] = none) : batchOf ws = (⟨false, []⟩, false) := by unfold batchOf; rw [h]
theorem batchOf_long {ws : List ByteArray} (h : 6 < ws.length) : batchOf ws = (⟨false, []⟩, false) := by
 unfold batchOf
 cases hr : readAll ws [] with
 | none => rfl
 | some cs =>
  have hl := readAll_len hr
  have : batchOk ⟨false, cs⟩ = false := by
   unfold batchOk within
   have : decide (1 <= (cs.length : Int) /\ (cs.length : Int) <= 6) = false := decide_eq_false (by rw [hl]; simp; omega)
   simp only [cond_false, this, Bool.false_and]
  simp only [this, cond_false]
theorem batch_cut (s : ByteArray) : batchOf (cutBK 59 (min 7 (s.size + 1) - 1) s) = batchOf (cutB 59 s) := by
 have hc : s.data.toList.count 59 <= s.size := by
  have := List.count_le_length (a := (59 : UInt8)) (l := s.data.toList)
  rwa [data_len] at this
 by_cases h : s.data.toList.count 59 <= min 7 (s.size + 1) - 1
 ·unfold cutBK cutB
  rw [cutK_all _ _ _ _ h]
 ·have h6 : min 7 (s.size + 1) - 1 = 6 := by omega
  rw [h6] at h ⊢
  rw [batchOf_long (ws := cutB 59 s) (by rw [cutB_length]; omega)]
  apply batchOf_none
  apply readAll_none
  obtain ⟨p, hp, h59⟩ := cutK_left 59 s.data.toList 6 [] (by omega)
  exact ⟨bs p, List.mem_map.2 ⟨p, hp, rfl⟩, readCmd_semi h59⟩
theorem readAll_at {ws : List ByteArray} {i : Nat} (h : i < ws.length) (cs : List Cmd) : readAll (ws.drop i) cs = if (readCmd (wd ws i)).2 then readAll (ws.drop (i + 1)) (cs ++ [(readCmd (wd ws i)).1]) else none := by
 rw [List.drop_eq_getElem_cons h, readAll]
 have : wd ws i = ws[i] := by unfold wd; rw [List.getD_eq_getElem?_getD, List.getElem?_eq_getElem h]; rfl
 rw [this]
theorem batchOf_some {ws : List ByteArray} {cs : List Cmd} (h : readAll ws [] = some cs) : batchOf ws = bif batchOk ⟨false, cs⟩ then (⟨false, cs⟩, true) else (⟨false, []⟩, false) := by unfold batchOf; rw [h]
theorem cmds_snoc (cs : List Cmd) (c : Cmd) : cs.map encCmd ++ [[D.int .i64 c.Kind, D.int .i64 c.Key, D.int .i64 c.Val]] = (cs ++ [c]).map encCmd := by rw [List.map_append]; rfl
theorem Ent_empBox {nf : Nat} {st : St} {o j sz : Nat} {cells : List Leaf} (eo : st.obj o = .box cells) (hj : cells[j]? = some .emp) : Ent nf st ((st.addObj (.vec sz true [])).setObj o (.box (cells.set j (.own st.next)))) := fun B N β φ a w hB h => by
 have hon : o < st.next := lt_next h (by rw [eo]; simp)
 have ho := h.objs o
 unfold ObjRel at ho
 rw [show (st.ctx w β φ).ob o = _ from eo] at ho
 obtain ⟨b, T, vs, e1, e2, e3, e4⟩ := ho
 obtain ⟨v, hv, ad, rfl⟩ := e4.2 j _ hj
 obtain ⟨β1, φ1, le1, sr1, hp⟩ := h.newVec0 (ks := []) (by simp) sz true ad
 have sr1 : SR B N (st.addObj (.vec sz true [])) β1 φ1 a w := sr1
 have le1 : (st.ctx w β φ).Le ((st.addObj (.vec sz true [])).ctx w β1 φ1) := le1
 have hp : AVRel ((st.addObj (.vec sz true [])).ctx w β1 φ1) (.one (.own st.next)) (.slice ad 0 0) := hp
 have eo1 : (st.addObj (.vec sz true [])).obj o = .box cells := by rw [St.obj_addObj_ne _ _ (by omega)]; exact eo
 have ho1 := sr1.objs o
 unfold ObjRel at ho1
 rw [show ((st.addObj (.vec sz true [])).ctx w β1 φ1).ob o = _ from eo1] at ho1
 obtain ⟨b', T', vs', f1, f2, f3, f4⟩ := ho1
 have hβ : β1 o = β o := (le1.obj o hon (by rw [show (st.ctx w β φ).ob o = _ from eo]; simp)).2 (by rw [show ((st.addObj (.vec sz true [])).ctx w β1 φ1).ob o = _ from eo1]; simp)
 have hbb : b' = b := by
  have f1' : (β1 o).base = some ⟨b', 0, none⟩ := f1
  have e1' : (β o).base = some ⟨b, 0, none⟩ := e1
  rw [hβ, e1'] at f1'
  cases f1'; rfl
 subst hbb
 have hvv : vs' = vs := by
  have e3' : w.heap[b']? = some (.cells vs T (0, 0)) := e3
  have f3' : w.heap[b']? = some (.cells vs' T' (0, 0)) := f3
  rw [e3'] at f3'
  cases f3'; rfl
 subst hvv
 let st2 := (st.addObj (.vec sz true [])).setObj o (.box (cells.set j (.own st.next)))
 have on2 : ∀ k, k ≠ o -> st2.obj k = (st.addObj (.vec sz true [])).obj k := fun k hk => St.obj_setObj_ne _ _ hk
 have ok2 : st2.obj o = .box (cells.set j (.own st.next)) := St.obj_setObj_same _ _ _
 obtain ⟨le2, sr2⟩ := sr1.change (st' := st2) (β' := β1) (φ' := φ1) (w' := w) (fun k => k = o) rfl (Nat.le_refl _) (fun k hk => on2 k hk) (fun _ _ => rfl) (fun _ _ => rfl)
  (fun k hk => by
    have hk' : st.next + 1 <= k := hk
    rw [on2 k (by omega)]
    exact sr1.dead k hk)
  (fun k hk hl => by
    subst hk
    rw [ok2, show (st.addObj (.vec sz true [])).obj k = _ from eo1]
    exact ⟨trivial, fun _ => rfl⟩)
  (Frm.refl w _)
  (fun le k hk => by
    subst hk
    unfold ObjRel
    rw [show (st2.ctx w β1 φ1).ob k = _ from ok2]
    refine ⟨b', T', vs', f1, f2, f3, by rw [List.length_set]; exact f4.1, fun i l hi => ?_⟩
    by_cases hij : j = i
    ·subst hij
     have hlt : j < cells.length := (List.getElem?_eq_some_iff.1 hj).1
     rw [List.getElem?_set_self hlt] at hi
     cases hi
     refine ⟨_, hv, ?_⟩
     exact AVRel.mono le (a := .one (.own st.next)) hp
    ·rw [List.getElem?_set_ne hij] at hi
     obtain ⟨u, hu, hr⟩ := f4.2 i l hi
     exact ⟨u, hu, AVRel.mono le (a := .one l) hr⟩)
  (fun k hk => sr1.nodup k)
  (fun k hk x hx => ⟨(sr1.fp k x hx).1, .inr ⟨k, hk, hx⟩⟩)
  (fun k k' hk hk' hne => absurd (hk.trans hk'.symm) hne)
 exact ⟨β1, φ1, sr2⟩
theorem c27 (s : ByteArray) (hs : s.size <= 1048576) : Ctr prog 27 [.one (.dat (.str s))] [] (.tup [.agg [.dat (.bool (readBatch s).1.Collect), .own 0], .one (.dat (.bool (readBatch s).2))]) [.vec 3 true ((readBatch s).1.Cmds.map encCmd)] := by
 have hmx : maxLen = 9223372036854775807 := rfl
 refine Ctr.bd mixed func27 rfl ?_
 cases hcol : (s.toList == collectB.toList) with
 | true =>
  have hr : readBatch s = (⟨true, []⟩, true) := by unfold readBatch; rw [hcol]; rfl
  unfold collectB at hcol
  rw [hr]
  refine sv29 ?_
  refine scs ?_
  refine Fin.ent (Ent_empBox (o := 0) (j := 1) (sz := 3) rfl rfl) ?_
  refine evl ?_
  refine Fin.nt results27 [1] ?_ ?_ ?_ <;> try trivial
  all_goals exact entd
 | false =>
  have hr : readBatch s = batchOf (cutBK 59 (min 7 (s.size + 1) - 1) s) := by unfold readBatch; rw [hcol, batch_cut]; rfl
  unfold collectB at hcol
  rw [hr]
  have hlen : (cutBK 59 (min 7 (s.size + 1) - 1) s).length <= 7 := by
   unfold cutBK
   rw [List.length_map]
   have := cutK_length 59 s.data.toList (min 7 (s.size + 1) - 1) []
   omega
  have hwz : ∀ w ∈ cutBK 59 (min 7 (s.size + 1) - 1) s, w.size <= 1048576 := fun w hw => Nat.le_trans (cutBK_size hw) hs
  have hsp := c50 s hs
  generalize cutBK 59 (min 7 (s.size + 1) - 1) s = ws at hsp hlen hwz ⊢
  refine sv29 ?_
  refine scs ?_
  refine ck e50 (hsp) rfl ?_
  refine sv22 ?_
  refine scs ?_
  refine LoopK_ent (Ent_empBox (o := 1) (j := 1) (sz := 3) rfl rfl) ?_
  refine evl ?_
  refine LoopK_intro (fun zn zs => ∃ (i : Nat) (cs : List Cmd), i <= ws.length /\ zn = ws.length - i /\ (readAll ws [] = readAll (ws.drop i) cs /\ cs.length = i) /\ zs = mkSt [(16, .one (.dat (.int .i64 i))), (15, .one (.dat (.int .i64 (ws.length)))), (14, .one (.own 2)), (2, .one (.ptr (.own 0 0 0))), (4, .one (.ptr (.own 1 0 0))), (0, .one (.dat (.str s)))] [.box [.dat (.bool false), .emp], .box [.dat (.bool false), .own 3], .vec 1 true (strRows ws), .vec 3 true (cs.map encCmd)]) (ws.length) _
   (Ent.wk [0, 1, 2, 3]) ⟨0, [], by omega, by omega, ⟨rfl, rfl⟩, rfl⟩ ?_
  rintro zn zs ⟨i, cs, hi, rfl, hinv, rfl⟩ K hK
  rcases Nat.lt_or_ge i (ws.length) with hlt | hge
  ·have hdi : decide ((i : Int) < ((ws.length : Nat) : Int)) = true := decide_eq_true (by omega)
   have hw := wrap_succ hlt (by omega)
   obtain ⟨hall, hcl⟩ := hinv
   rw [readAll_at hlt] at hall
   have hrow := strRow_get hlt
   have hrc := c21 (wd ws i) (hwz _ (wd_mem hlt))
   cases hok : (readCmd (wd ws i)).2 with
   | true =>
    rw [hok, if_pos rfl] at hall
    rw [hok] at hrc
    refine sv30 ?_
    refine scs ?_
    refine ck e21 (hrc) rfl ?_
    simp (maxSteps := 2000000) only [go_sem, seval, hw, cmds_snoc]
    repeat ((with_reducible show _ = true /\ _); refine ⟨by kernel_rfl, ?_⟩)
    refine scs ?_
    (apply hK
     exact ⟨ws.length - (i + 1), _, by omega, Ent.wk [0, 1, 2, 6], i + 1, (cs ++ [(readCmd (wd ws i)).1]), by omega, rfl, ⟨hall, by rw [List.length_append, List.length_cons, List.length_nil, hcl]⟩, rfl⟩)
   | false =>
    rw [hok, if_neg (by decide)] at hall
    rw [hok] at hrc
    refine sv30 ?_
    refine scs ?_
    refine ck e21 (hrc) rfl ?_
    refine sv0 ?_
    refine scs ?_
    apply hK
    refine evl ?_
    rw [batchOf_none hall]
    refine Fin.ent (Ent_empBox (o := 0) (j := 1) (sz := 3) rfl rfl) ?_
    refine evl ?_
    refine Fin.nt results27 [5] ?_ ?_ ?_ <;> try trivial
    all_goals exact entd
  ·have hge' : ws.length = i := by omega
   subst hge'
   have hdi : decide (((ws.length : Nat) : Int) < ((ws.length : Nat) : Int)) = false := by simp
   obtain ⟨hall, hcl⟩ := hinv
   rw [List.drop_length, readAll] at hall
   have hbo := c42 ⟨false, cs⟩ (by show cs.length <= maxLen; omega)
   simp only [encBatch, List.map_cons, List.map_nil] at hbo
   cases hok : batchOk ⟨false, cs⟩ with
   | true =>
    rw [hok] at hbo
    refine sv24 ?_
    apply hK
    rw [batchOf_some hall, hok]
    refine evl ?_
    refine ck e42 (hbo) rfl ?_
    refine evl ?_
    refine scs ?_
    refine Fin.nt results27 [3] ?_ ?_ ?_ <;> try trivial
    all_goals exact entd
   | false =>
    rw [hok] at hbo
    refine sv24 ?_
    apply hK
    rw [batchOf_some hall, hok]
    refine evl ?_
    refine ck e42 (hbo) rfl ?_
    refine evl ?_
    refine scs ?_
    refine Fin.ent (Ent_empBox (o := 0) (j := 1) (sz := 3) rfl rfl) ?_
    refine evl ?_
    refine Fin.nt results27 [4] ?_ ?_ ?_ <;> try trivial
    all_goals exact entd
theorem c26 (s : ByteArray) (hs : s.size <= 1048576) : Ctr prog 26 [.one (.dat (.str s))] [] (.tup [.agg [.dat (.bool (readBatch s).1.Collect), .own 0], .one (.dat (.bool (readBatch s).2))]) [.vec 3 true ((readBatch s).1.Cmds.map encCmd)] := by
 have hmx : maxLen = 9223372036854775807 := rfl
 refine Ctr.bd mixed func26 rfl ?_
 cases hcol : (s.toList == collectB.toList) with
 | true =>
  have hr : readBatch s = (⟨true, []⟩, true) := by unfold readBatch; rw [hcol]; rfl
  unfold collectB at hcol
  rw [hr]
  refine sv29 ?_
  refine scs ?_
  refine Fin.ent (Ent_empBox (o := 0) (j := 1) (sz := 3) rfl rfl) ?_
  refine evl ?_
  refine Fin.nt results26 [1] ?_ ?_ ?_ <;> try trivial
  all_goals exact entd
 | false =>
  have hr : readBatch s = batchOf (cutB 59 s) := by unfold readBatch; rw [hcol]; rfl
  unfold collectB at hcol
  rw [hr]
  have hlen := Nat.le_trans (cutB_le 59 s) (Nat.succ_le_succ hs)
  have hwz : ∀ w ∈ cutB 59 s, w.size <= 1048576 := fun w hw => Nat.le_trans (cutB_size hw) hs
  have hsp := c45 s 59 hs
  generalize cutB 59 s = ws at hsp hlen hwz ⊢
  refine sv29 ?_
  refine scs ?_
  refine ck e45 (hsp) rfl ?_
  refine sv22 ?_
  refine scs ?_
  refine LoopK_ent (Ent_empBox (o := 1) (j := 1) (sz := 3) rfl rfl) ?_
  refine evl ?_
  refine LoopK_intro (fun zn zs => ∃ (i : Nat) (cs : List Cmd), i <= ws.length /\ zn = ws.length - i /\ (readAll ws [] = readAll (ws.drop i) cs /\ cs.length = i) /\ zs = mkSt [(6, .one (.dat (.int .i64 i))), (2, .one (.ptr (.own 0 0 0))), (4, .one (.ptr (.own 1 0 0))), (5, .one (.own 2)), (0, .one (.dat (.str s)))] [.box [.dat (.bool false), .emp], .box [.dat (.bool false), .own 3], .vec 1 true (strRows ws), .vec 3 true (cs.map encCmd)]) (ws.length) _
   (Ent.wk [0, 1, 2, 3]) ⟨0, [], by omega, by omega, ⟨rfl, rfl⟩, rfl⟩ ?_
  rintro zn zs ⟨i, cs, hi, rfl, hinv, rfl⟩ K hK
  rcases Nat.lt_or_ge i (ws.length) with hlt | hge
  ·have hdi : decide ((i : Int) < ((ws.length : Nat) : Int)) = true := decide_eq_true (by omega)
   have hw := wrap_succ hlt (by omega)
   obtain ⟨hall, hcl⟩ := hinv
   rw [readAll_at hlt] at hall
   have hrow := strRow_get hlt
   have hrc := c20 (wd ws i) (hwz _ (wd_mem hlt))
   cases hok : (readCmd (wd ws i)).2 with
   | true =>
    rw [hok, if_pos rfl] at hall
    rw [hok] at hrc
    refine sv30 ?_
    refine scs ?_
    refine ck e20 (hrc) rfl ?_
    simp (maxSteps := 2000000) only [go_sem, seval, hw, cmds_snoc]
    repeat ((with_reducible show _ = true /\ _); refine ⟨by kernel_rfl, ?_⟩)
    refine scs ?_
    (apply hK
     exact ⟨ws.length - (i + 1), _, by omega, Ent.wk [0, 1, 2, 6], i + 1, (cs ++ [(readCmd (wd ws i)).1]), by omega, rfl, ⟨hall, by rw [List.length_append, List.length_cons, List.length_nil, hcl]⟩, rfl⟩)
   | false =>
    rw [hok, if_neg (by decide)] at hall
    rw [hok] at hrc
    refine sv30 ?_
    refine scs ?_
    refine ck e20 (hrc) rfl ?_
    refine sv0 ?_
    refine scs ?_
    apply hK
    refine evl ?_
    rw [batchOf_none hall]
    refine Fin.ent (Ent_empBox (o := 0) (j := 1) (sz := 3) rfl rfl) ?_
    refine evl ?_
    refine Fin.nt results26 [5] ?_ ?_ ?_ <;> try trivial
    all_goals exact entd
  ·have hge' : ws.length = i := by omega
   subst hge'
   have hdi : decide (((ws.length : Nat) : Int) < ((ws.length : Nat) : Int)) = false := by simp
   obtain ⟨hall, hcl⟩ := hinv
   rw [List.drop_length, readAll] at hall
   have hbo := c40 ⟨false, cs⟩ (by show cs.length <= maxLen; omega)
   simp only [encBatch, List.map_cons, List.map_nil] at hbo
   cases hok : batchOk ⟨false, cs⟩ with
   | true =>
    rw [hok] at hbo
    refine sv24 ?_
    apply hK
    rw [batchOf_some hall, hok]
    refine evl ?_
    refine ck e40 (hbo) rfl ?_
    refine evl ?_
    refine scs ?_
    refine Fin.nt results26 [3] ?_ ?_ ?_ <;> try trivial
    all_goals exact entd
   | false =>
    rw [hok] at hbo
    refine sv24 ?_
    apply hK
    rw [batchOf_some hall, hok]
    refine evl ?_
    refine ck e40 (hbo) rfl ?_
    refine evl ?_
    refine scs ?_
    refine Fin.ent (Ent_empBox (o := 0) (j := 1) (sz := 3) rfl rfl) ?_
    refine evl ?_
    refine Fin.nt results26 [4] ?_ ?_ ?_ <;> try trivial
    all_goals exact entd
theorem c28_e (c : Bool) (l : List Cmd) (k : Int) (hk0 : 0 <= k) (hk : k + 3 * l.length <= 4611686018427387904) : Ctr prog 28 [.agg [.dat (.bool c), .own 0], .one (.dat (.int .i64 k))] [.vec 3 true (l.map encCmd)] (.one (.dat (.int .i64 (k + 3 * l.length)))) [.vec 3 true (markCmds k l.length)] := by
 refine Ctr.of_body mixed func28 rfl (by kernel_rfl) (Nat.le_of_ble_eq_true rfl) (by simp [AV.Clean, AV.Clean1, Leaf.Clean, D.flat]) (by simp [AObj.Sep]) (by simp) ?_ (by simp [AV.Low, AV.Low1, Leaf.Low]) ?_
 ·intro o ho
  have : o = 0 := by simpa using ho
  subst this
  simp [Objs, Compat, markCmds]
 show wpA _ _ _ (FinQ _ _ _ _ _) _
 refine evl ?_
 refine scs ?_
 refine CallK_os [0] e51 (by simp [osOk, St.obj, find]) (c51 l k hk0 hk) rfl ?_
 refine evl ?_
 refine Fin.nt results28 [0] ?_ ?_ ?_ <;> try trivial
 all_goals exact entd
theorem c29_e (c : Bool) (n : Nat) (k : Int) (hk0 : 0 <= k) (hk : k + 3 * n <= 4611686018427387904) : Ctr prog 29 [.agg [.dat (.bool c), .dat (.sl 3 (markCmds k n))], .one (.dat (.int .i64 k))] [] (.one (.dat (.int .i64 (k + 3 * n)))) [] := by
 have hd : decide ((k + 3 * (n : Int)) < 0) = false := decide_eq_false (by omega)
 refine Ctr.bd mixed func29 rfl ?_
 refine evl ?_
 refine scs ?_
 refine ck e52 (c52 n k hk0 hk) rfl ?_
 refine sv3 ?_
 refine Fin.nt results29 [] ?_ ?_ ?_ <;> try trivial
end Go.Proofs.YtmgemgeeoconbaaDoor.Mod
namespace Go.Proofs.YtmgemgeeoconbaaDoor.fnExactReadBatch
open Go.Proofs.Tryd Go.Abs Go.Proofs.YtmgemgeeoconbaaDoor.Ty Go.ChangeShapes Go.WideShapes Go.ChangeAt Go.RowKit Go.Proofs.YtmgemgeeoconbaaDoor.Mod
set_option linter.unusedSimpArgs false
set_option linter.unusedVariables false
set_option maxHeartbeats 8000000
set_option maxRecDepth 100000
theorem batchOf_len (ws : List ByteArray) : (batchOf ws).1.Cmds.length <= 6 := by
 unfold batchOf
 cases readAll ws [] with
 | none => exact Nat.zero_le _
 | some cs =>
  simp only
  cases h : batchOk ⟨false, cs⟩ with
  | true => rw [cond_true]; exact batchOk_len h rfl
  | false => rw [cond_false]; exact Nat.zero_le _
theorem readBatch_len (s : ByteArray) : (readBatch s).1.Cmds.length <= 6 := by
 unfold readBatch
 cases s.toList == collectB.toList with
 | true => exact Nat.zero_le _
 | false => exact batchOf_len _
theorem c8 (s : ByteArray) : Ctr prog 8 [.one (.dat (.str s))] [] (.one (.dat (.bool true))) [] := by
 refine Ctr.bd mixed func8 rfl ?_
 by_cases h : s.size <= 1048576
 ·have hd : decide ((1048576 : Int) < (s.size : Int)) = false := decide_eq_false (by omega)
  have hsp := c26 s h
  have him := c27 s h
  have hlen := readBatch_len s
  have hbn : ((readBatch s).2 != (readBatch s).2) = false := by cases (readBatch s).2 <;> rfl
  generalize (readBatch s).2 = ok at hsp him hbn
  generalize (readBatch s).1 = b at hsp him hlen
  have hsz : sizBatch b <= 1048576 := by unfold sizBatch; omega
  have heq := c19 b b hsz hsz
  have hself : decide (b = b) = true := decide_eq_true rfl
  rw [hself] at heq
  simp only [encBatch, List.map_cons, List.map_nil] at heq
  have hk : decide ((1 + 3 * (b.Cmds.length : Int)) < 0) = false := decide_eq_false (by omega)
  refine sv3 ?_
  refine scs ?_
  refine ck e26 (hsp) rfl ?_
  refine evl ?_
  refine scs ?_
  refine ck e27 (him) rfl ?_
  refine evl ?_
  refine scs ?_
  refine ck e19 (heq) rfl ?_
  refine sv28 ?_
  refine scs ?_
  have hq : ((1 + 3 * (b.Cmds.length : Int)) != (1 + 3 * (b.Cmds.length : Int))) = false := bne_self_eq_false _
  refine CallK_os [2] e28 (by simp [osOk, St.obj, find]) (c28_e b.Collect b.Cmds 1 (by omega) (by omega)) rfl ?_
  refine evl ?_
  refine scs ?_
  refine ck e29 (c29_e b.Collect b.Cmds.length 1 (by omega) (by omega)) rfl ?_
  simp (maxSteps := 2000000) only [go_sem, seval, hk, hq]
  refine scs ?_
  refine ck e27 (him) rfl ?_
  refine evl ?_
  refine scs ?_
  refine ck e19 (heq) rfl ?_
  refine sv28 ?_
  refine scs ?_
  refine ck e29 (c29_e b.Collect b.Cmds.length 1 (by omega) (by omega)) rfl ?_
  simp (maxSteps := 2000000) only [go_sem, seval, hk, hq]
  refine scs ?_
  refine Fin.nt results8 [] ?_ ?_ ?_ <;> try trivial
 ·have hd : decide ((1048576 : Int) < (s.size : Int)) = true := decide_eq_true (by omega)
  refine sv3 ?_
  refine scs ?_
  refine Fin.nt results8 [] ?_ ?_ ?_ <;> try trivial
theorem law (dss : List (List D)) (h : WTAll prog 8 f8.params.toList dss) : Ctr prog 8 (argAVs prog f8.params.toList dss) [] (.one (.dat (.bool true))) [] := by
 rw [params8] at *
 simp only [WTAll, List.toList_toArray] at h
 obtain ⟨_, _, rfl, h0, rfl⟩ := h
 obtain ⟨x0, rfl, c0⟩ := decStr underlying9 h0
 simp only [argAVs, argAV, List.toList_toArray, underlying9, List.headD_cons]
 exact c8 x0

theorem own : ownKnob prog.godebug = none := by kernel_rfl
theorem glob {W : World} (h : laidMetH prog Rows.fnExactReadBatchRow.laid W) (hs : W.ShapedOpen prog) : GlobOk W (fun _ => False) := by
 rw [MakeChecks.laidMetH_plain _ _ _ (by kernel_rfl)] at h
 intro t ht
 simp only [tabs, List.mem_cons, List.not_mem_nil, or_false] at ht
 rcases ht with rfl | rfl | rfl | rfl | rfl
 ·obtain ⟨T, fr, hw⟩ := words_of_laid (name := "loop.example/g01538/impl.cmdWords") (ws := [[103, 101, 116], [112, 117, 116], [100, 101, 108], [97, 100, 100]]) (g := 0) (t := 58) (e := 9) (n := 4) (by kernel_rfl) (by kernel_rfl) underlying58 underlying9 (by kernel_rfl) (by kernel_rfl) h.tail.tail.tail.tail.tail.tail
  exact ⟨id, by simp [wordsT], _, T, fr, hw, strs_repl [⟨#[103, 101, 116]⟩, ⟨#[112, 117, 116]⟩, ⟨#[100, 101, 108]⟩, ⟨#[97, 100, 100]⟩]⟩
 ·obtain ⟨cs, T, fr, hw, he⟩ := int_of_shape (Go.Proofs.cell_of_shapedOpen_int (g := 1) (t := 3) (zero := #[.int .i64 0]) hs (of_decide_eq_true (by kernel_rfl)) (by kernel_rfl) rfl (by kernel_rfl) (by kernel_rfl) underlying3)
  exact ⟨id, cs, T, fr, hw, he⟩
 ·obtain ⟨cs, T, fr, hw, he⟩ := err_of_laid (name := "strconv.ErrSyntax") (g := 4) (t := 85) (by kernel_rfl) (by kernel_rfl) underlying85 h.tail.tail.tail.tail.tail
  exact ⟨id, cs, T, fr, hw, he⟩
 ·obtain ⟨cs, T, fr, hw, he⟩ := err_of_laid (name := "strconv.ErrRange") (g := 5) (t := 85) (by kernel_rfl) (by kernel_rfl) underlying85 h.tail.tail.tail.tail
  exact ⟨id, cs, T, fr, hw, he⟩
 ·have hT := Lib.tabIs_of_head (k := .u64) (zs := Lib.pow10Tab) (g := 6) (t := 135) (e := 116) (n := 20) (by kernel_rfl) (by kernel_rfl) underlying135 underlying116 (by kernel_rfl) (by kernel_rfl) h.tail.tail
  obtain ⟨T, fr, hw⟩ := heap_of_var (by kernel_rfl) hT
  exact ⟨id, by simp [pow10T], _, T, fr, hw, ints_repl .u64 Lib.pow10Tab⟩
set_option maxRecDepth 100000 in
theorem lifted (os : Os) (started : os.Started) (H : Type) (enc : TypeId × Value -> H) :
  ReturnsInHanded {} Tryd.checked os 8 .any (fun w args => (Rows.fnExactReadBatchSpec.pre enc prog f8 [] false w args /\ laidMetH prog Rows.fnExactReadBatchRow.laid w) /\ sizedMet enc prog f8 (OpenSpec.ofChange Rows.fnExactReadBatchSpec) false w args)
   (Rows.fnExactReadBatchSpec.post enc prog f8 false true false false) := by
 refine handed_shaped (C := Tryd.checked) (X := fun w => laidMetH prog Rows.fnExactReadBatchRow.laid w) (fun _ _ hh h => h.of_heap hh) own started (by kernel_rfl) func8
  (ChangeSpec.witness_shaped (enc := enc) (C := Tryd.checked) (os := os) (X := fun w _ => laidMetH prog Rows.fnExactReadBatchRow.laid w) false (World.laidAll prog os Rows.fnExactReadBatchRow.laid) #[.string .empty] 8 (World.laidAll_os _ _ _) (World.shaped_of_ZipB (by kernel_rfl) (by kernel_rfl)) (by kernel_rfl) (by kernel_rfl) (by kernel_rfl)
    (by rw [MakeChecks.laidMetH_plain _ _ _ (by kernel_rfl)]; exact laidMet_laidAll _ (by kernel_rfl) (by kernel_rfl))) ?_
 intro W base args ds gs before hval0 hW hL hS
 have hW' := hW
 obtain ⟨p, q, hA0, hV, rfl, hfz, hnd⟩ := hW'
 have hA : DataW.TrodAll enc prog W 0 (fun _ => true) true f8.params.toList args.toList ds p := hA0
 obtain ⟨dss, h1, h2⟩ := args_rep (n := 8) (by kernel_rfl) (fun j t v hj hv => hval0 j t v (by simpa using hj) (by simpa using hv)) hA
 have hs : Rows.fnExactReadBatchSpec.fn H (ds ++ gs) = { results := [.lit (.bool true)], args := ds, vars := gs } := by
  obtain ⟨_, _, _, _, g1, _, rfl, _⟩ := trodVars_one hV
  rw [params8] at hA
  obtain ⟨v0, vs0, d0, ds0, p0, q0, _, rfl, _, _, r0⟩ := trodAll_cons hA
  obtain ⟨_, rfl, _⟩ := trodAll_nil r0
  rfl
 have hc := law_calls (law dss h1) h2 (glob hL hS)
 rw [Array.toArray_toList] at hc
 refine hc.mono fun e W' ⟨he, hb⟩ => ?_
 subst he
 exact ⟨_, rfl, law_postV (by kernel_rfl) (by kernel_rfl) (by kernel_rfl) hW hs rfl underlying4 hb⟩

theorem closed : joinedFacts prog 8 f8 Rows.fnExactReadBatchSpec Rows.fnExactReadBatchRow = true := by
 unfold joinedFacts
 simp only [Bool.and_eq_true, Whole.laidOut, Whole.rowed, Whole.stops, Whole.knobs, Whole.keys, Whole.heard, Whole.enter, Whole.lifts, Whole.make, true_and, and_true]
 repeat' (refine And.intro ?_ ?_)
 all_goals (as_aux_lemma => kernel_rfl)

theorem over : Rows.fnExactReadBatchRow.holds Tryd.pinned (OpenSpec.ofChange Rows.fnExactReadBatchSpec) :=
 OpenClaim.holds_of_wide 8 f8 rfl rfl rfl rfl rfl rfl rfl ⟨rfl, rfl, rfl, rfl, rfl⟩ rfl rfl rfl rfl rfl (by kernel_rfl) func8 closed
  (of_decide_eq_true (by kernel_rfl)) (by unfold Func.isWrapper; first | (rw [if_pos (by decide +kernel)]; kernel_rfl) | (rw [if_neg (by decide +kernel)]; exact ⟨rfl, rfl⟩))
  (fun os started H enc _ => lifted os started H enc)

theorem proved : Rows.FnExactReadBatchCardSaid :=
 Claim7.holds_tied_plain_at .later [] [.data, .data, .data, .data, .sentinel, .sentinel, .widerDeep, .pinned] true (true, "0d0865db12b8f5393674d66c1f0752417bf5fd0889710cf42c65f32ea9d913d2") true
  over (fun _ h => by cases h) (by kernel_rfl) (fun _ h => by cases h) fnExactReadBatch_row_tie rfl ⟨rfl, rfl⟩ (by kernel_rfl) rfl
  (fun f fn hf hfn => by
    obtain rfl : f = 8 := (Option.some.inj ((show prog.funcNamed "loop.example/g01538/laws.FnExactReadBatch" = some 8 by kernel_rfl).symm.trans hf)).symm
    obtain rfl : fn = f8 := (Option.some.inj (func8.symm.trans hfn)).symm
    exact ⟨by kernel_rfl, fun j t ht => by
     rw [params8] at ht
     rcases j with _ | j
     ·obtain rfl := (show _ = t by simpa using ht)
      kernel_rfl
     ·simp at ht⟩)
  (by kernel_rfl)
end Go.Proofs.YtmgemgeeoconbaaDoor.fnExactReadBatch
