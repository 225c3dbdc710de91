/- FnExactShowBatch: the program answers as the statement says, at every argument. -/
import Derived.Test.YtmgemgeeoconbaaDoorRows
import Derived.Test.YtmgemgeeoconbaaDoorBTy
import Derived.Test.YtmgemgeeoconbaaDoorAbsTac
import Derived.Test.YtmgemgeeoconbaaDoorAbsData
import Derived.Test.YtmgemgeeoconbaaDoorWhole
import Derived.Test.YtmgemgeeoconbaaDoorLaidT
import Derived.Test.YtmgemgeeoconbaaDoorAbsCard
import Derived.Test.YtmgemgeeoconbaaDoorCards
import Derived.Test.YtmgemgeeoconbaaDoorTie
import Derived.Test.YtmgemgeeoconbaaDoorBBase
import Derived.Test.YtmgemgeeoconbaaDoorBNum
import Derived.Test.YtmgemgeeoconbaaDoorBFam
import Derived.Test.YtmgemgeeoconbaaDoorBFam2
import Derived.Test.YtmgemgeeoconbaaDoorBSl2
import Derived.Test.YtmgemgeeoconbaaDoorBHist
import Derived.WalkKit
import Derived.ProofKit
import Derived.OpenShut
namespace Go.Proofs.YtmgemgeeoconbaaDoor.Mod
open Go.Proofs.Tryd Go.Abs Go.Proofs.YtmgemgeeoconbaaDoor.Ty Go.ChangeShapes Go.WideShapes Go.ChangeAt Go.RowKit
set_option linter.unusedSimpArgs false
set_option linter.unusedVariables false
set_option maxHeartbeats 8000000
set_option maxRecDepth 100000
def bs (l : List UInt8) : ByteArray := ⟨l.toArray⟩
theorem bs_app (a b : List UInt8) : bs a ++ bs b = bs (a ++ b) := by apply ByteArray.ext; simp [bs]
theorem bs_size (a : List UInt8) : (bs a).size = a.length := by simp [bs, ByteArray.size]
def itoaB (n : Int) : ByteArray := bs (Lib.itoa n)
theorem itoaB_size {n : Int} (h0 : -9223372036854775808 <= n) (h1 : n <= 9223372036854775807) : (itoaB n).size <= 21 := by
 unfold itoaB; rw [bs_size]; exact Lib.itoa_length_le n h0 h1
def digs (m : Nat) : List UInt8 := if m = 0 then [] else Lib.decDigits m
theorem digs_step {m : Nat} (h : m ≠ 0) : digs m = digs (m / 10) ++ [UInt8.ofNat (48 + m % 10)] := by
 unfold digs
 rw [if_neg h]
 by_cases h9 : m < 10
 ·rw [if_pos (by omega), Lib.decDigits, dif_pos h9, Nat.mod_eq_of_lt h9]; rfl
 ·rw [if_neg (by omega), Lib.decDigits, dif_neg h9]
theorem itoa_digs {n : Int} (h : n ≠ 0) : Lib.itoa n = if n < 0 then 45 :: digs n.natAbs else digs n.natAbs := by
 unfold Lib.itoa digs
 have h0 : ¬ n.natAbs = 0 := by omega
 by_cases hn : n < 0
 ·simp only [hn, if_true, h0, if_false]
 ·simp only [hn, h0, if_false]; rw [show n.toNat = n.natAbs by omega]
theorem tmod10 (x : Int) : x.tmod 10 = if x < 0 then -((x.natAbs % 10 : Nat) : Int) else ((x.natAbs % 10 : Nat) : Int) := by
 by_cases h : x < 0
 ·rw [if_pos h]
  obtain ⟨m, rfl⟩ : ∃ m : Nat, x = -(m : Int) := ⟨x.natAbs, by omega⟩
  rw [Int.neg_tmod, Int.natAbs_neg, Int.natAbs_natCast]; rfl
 ·rw [if_neg h]
  obtain ⟨m, rfl⟩ : ∃ m : Nat, x = (m : Int) := ⟨x.natAbs, by omega⟩
  rfl
theorem tdiv10 (x : Int) : (x.tdiv 10).natAbs = x.natAbs / 10 := by rw [Int.natAbs_tdiv]; rfl
theorem bytesOf_one (k : Nat) : bytesOf [(k : Int)] = bs [UInt8.ofNat k] := rfl
theorem itoaB_zero : itoaB 0 = ⟨#[48]⟩ := by
 unfold itoaB Lib.itoa bs
 rw [if_neg (by decide), show (0 : Int).toNat = 0 from rfl, Lib.decDigits, dif_pos (by decide)]; rfl
def decsB (l : List Int) : ByteArray := bs (l.flatMap fun n => 32 :: Lib.itoa n)
theorem decsB_snoc (l : List Int) (n : Int) : decsB (l ++ [n]) = decsB l ++ (⟨#[32]⟩ ++ itoaB n) := by
 unfold decsB itoaB
 rw [show (⟨#[32]⟩ : ByteArray) = bs [32] from rfl, bs_app, bs_app, List.flatMap_append]; simp
def inI (n : Int) : Prop := -9223372036854775808 <= n /\ n <= 9223372036854775807
theorem decsB_size : ∀ {l : List Int}, (∀ n ∈ l, inI n) -> (decsB l).size <= 22 * l.length
 | [], _ => by simp [decsB, bs_size]
 | x :: l, h => by
  have h1 := decsB_size (l := l) fun n hn => h n (by simp [hn])
  have h2 := Lib.itoa_length_le x (h x (by simp)).1 (h x (by simp)).2
  unfold decsB at h1 ⊢
  rw [bs_size] at h1 ⊢
  rw [List.flatMap_cons, List.length_append, List.length_cons, List.length_cons]; omega
theorem Ctr.itoa {P : Program} {ρ : Go.Shelf.Ren} (L : Go.Proofs.LaysM.n171 P ρ) (htab : ∀ w X, GlobOk w X -> Lib.TabIs P w "internal/strconv.uint64pow10" .u64 Lib.pow10Tab) (n : Int) (h0 : -9223372036854775808 <= n) (h1 : n <= 9223372036854775807) :
  Ctr P (ρ.f 171) [.one (.dat (.int .i64 n))] [] (.one (.dat (.str ⟨(Lib.itoa n).toArray⟩))) [] where
 clean := rfl
 sep := by simp
 len := Nat.le_refl _
 comp := fun o ho => by simp at ho
 calls := fun w β φ vs hor ha => by
  obtain ⟨g1, g2⟩ := ha
  obtain ⟨v, hv, S, hr, _⟩ := g2 0 _ rfl
  cases hr
  have hvs : vs = #[.int .i64 n] := by
   apply Array.ext_getElem?
   intro i
   match i with
   | 0 => exact hv
   | i + 1 => rw [Array.getElem?_eq_none (by rw [g1]; simp), Array.getElem?_eq_none (by simp)]
  subst hvs
  have hφ : ∀ o, φ o = [] := fun o => by
   have := hor.objs o
   unfold ObjRel at this
   rw [show (lctx w β φ []).ob o = .dead by simp [lctx, Objs]] at this
   exact this
  refine (Go.Proofs.Any.strconv_Itoa L n h0 h1 w (htab w _ hor.glob)).mono ?_
  rintro e w' ⟨rfl, k, os, rfl⟩
  have FR : Frm w (fun b => ∃ o, b ∈ φ o) (Go.Sort.grow (w.drewN k) os) :=
   ⟨rfl, rfl, rfl, by simp, fun b hb hx => Go.Sort.heap_grow_old _ _ hb⟩
  exact ⟨_, β, φ, rfl, ⟨fun o => by unfold ObjRel; rw [show (lctx (Go.Sort.grow (w.drewN k) os) β φ []).ob o = .dead by simp [lctx, Objs]]; exact hφ o, hor.nodup, hor.disj, fun o b hb => (by rw [hφ] at hb; cases hb), hor.glob.frm FR fun b hb => .inl hb⟩,
   fun _ _ => rfl, fun o b hb => .inr ⟨o, hb⟩, ⟨[], .str _, by simp⟩, FR⟩
theorem intsRep {w : World} : ∀ {k : IntKind} {ns : List Int} {vs : List Value} {S : List Nat}, RepL w (ns.map (D.int k)) vs S -> vs = ns.map (Value.int k)
 | _, [], _, _, h => by cases h; rfl
 | k, n :: ns, _, _, h => by
  cases h with
  | cons h1 h2 =>
   cases h1
   rw [intsRep h2]; rfl
theorem pow10_is (w : World) (X : Nat -> Prop) (h : GlobOk w X) : Lib.TabIs prog w "internal/strconv.uint64pow10" .u64 Lib.pow10Tab := by
 obtain ⟨_, _, cs, T, fr, h1, h2⟩ := h (6, .rows 20 pow10T) (by simp [tabs])
 unfold Lib.TabIs World.var?
 rw [show prog.globalNamed "internal/strconv.uint64pow10" = some 6 by kernel_rfl, Option.bind_some, h1]
 have h3 := intsRep (k := .u64) (ns := Lib.pow10Tab) h2
 show some cs = _
 rw [<- h3]
theorem c64 (n : Int) (h0 : -9223372036854775808 <= n) (h1 : n <= 9223372036854775807) : Ctr prog 64 [.one (.dat (.int .i64 n))] [] (.one (.dat (.str (itoaB n)))) [] :=
 Ctr.itoa YtmgemgeeoconbaaDoor.lays171 pow10_is n h0 h1
theorem c55 (n : Int) (h0 : -9223372036854775808 <= n) (h1 : n <= 9223372036854775807) : Ctr prog 55 [.one (.dat (.int .i64 n))] [] (.one (.dat (.str (itoaB n)))) [] := by
 refine Ctr.bd mixed func55 rfl ?_
 refine evl ?_
 refine ck e64 (c64 n h0 h1) rfl ?_
 refine evl ?_
 refine Fin.nt results55 [] ?_ ?_ ?_ <;> try trivial
theorem c33 (l : List Int) (hl : l.length <= 1048576) (hb : ∀ n ∈ l, inI n) : Ctr prog 33 [.one (.dat (.sl 1 (l.map encI)))] [] (.one (.dat (.str (decsB l)))) [] := by
 have hmx : maxLen = 9223372036854775807 := rfl
 refine Ctr.bd mixed func33 rfl ?_
 refine evl ?_
 refine scs ?_
 refine LoopK_intro (fun zn zs => ∃ (i : Nat) (o : ByteArray), i <= l.length /\ zn = l.length - i /\ (o = decsB (l.take i)) /\ zs = mkSt [(8, .one (.dat (.int .i64 i))), (7, .one (.dat (.int .i64 (l.length)))), (6, .one (.dat (.sl 1 (l.map encI)))), (3, .one (.dat (.str o))), (0, .one (.dat (.sl 1 (l.map encI))))] []) (l.length) _
  (Ent.wk []) ⟨0, ⟨#[]⟩, by omega, by omega, rfl, rfl⟩ ?_
 rintro zn zs ⟨i, o, hi, rfl, hinv, rfl⟩ K hK
 rcases Nat.lt_or_ge i (l.length) with hlt | hge
 ·have hdi : decide ((i : Int) < ((l.length : Nat) : Int)) = true := decide_eq_true (by omega)
  have hw := wrap_succ hlt (le20 hl)
  have hn := hb _ (List.getElem_mem hlt)
  have hz := itoaB_size hn.1 hn.2
  have hz2 := decsB_size (l := l.take i) fun n hn => hb n (List.mem_of_mem_take hn)
  rw [<- hinv, List.length_take] at hz2
  have hz3 : ((⟨#[32]⟩ : ByteArray) ++ itoaB l[i]).size <= 22 := by rw [ByteArray.size_append]; show 1 + _ <= _; omega
  simp (maxSteps := 2000000) only [go_sem, seval, hdi, hw, getD_map hlt, encI]
  refine scs ?_
  refine ck e55 (c55 l[i] hn.1 hn.2) rfl ?_
  refine sv0 ?_
  refine scs ?_
  (apply hK
   exact ⟨l.length - (i + 1), _, by omega, Ent.wk [], i + 1, (o ++ (⟨#[32]⟩ ++ itoaB l[i])), by omega, rfl, by rw [hinv, <- decsB_snoc, <- List.take_succ_eq_append_getElem hlt], rfl⟩)
 ·have hge' : l.length = i := by omega
  subst hge'
  have hdi : decide (((l.length : Nat) : Int) < ((l.length : Nat) : Int)) = false := by simp
  refine sv2 ?_
  apply hK
  refine evl ?_
  refine Fin.nt results33 [] ?_ ?_ ?_ <;> try trivial
  (refine rsl ?_; try exact .intro)
  rw [hinv, List.take_length]
theorem c31 (n : Int) (h0 : -9223372036854775808 <= n) (h1 : n <= 9223372036854775807) : Ctr prog 31 [.one (.dat (.int .i64 n))] [] (.one (.dat (.str (itoaB n)))) [] := by
 have hmx : maxLen = 9223372036854775807 := rfl
 by_cases hz : n = 0
 ·subst hz
  refine Ctr.bd mixed func31 rfl ?_
  refine evl ?_
  refine Fin.nt results31 [] ?_ ?_ ?_ <;> try trivial
  (refine rsl ?_; try exact .intro)
  exact itoaB_zero.symm
 have hz1 : (n == 0) = false := by simpa using hz
 refine Ctr.bd mixed func31 rfl ?_
 simp (maxSteps := 2000000) only [go_sem, seval, hz1]
 refine LoopK_intro (fun zn zs => ∃ (x : Int) (o : List UInt8), zn = x.natAbs /\ (-9223372036854775808 <= x /\ x <= 9223372036854775807 /\ digs x.natAbs ++ o = digs n.natAbs) /\ zs = mkSt [(0, .one (.dat (.int .i64 x))), (3, .one (.dat (.str (bs o)))), (4, .one (.dat (.bool (decide (n < 0)))))] []) _ _
  (Ent.wk []) ⟨n, [], rfl, ⟨h0, h1, List.append_nil _⟩, rfl⟩ ?_
 rintro zn zs ⟨x, o, rfl, hinv, rfl⟩ K hK
 obtain ⟨i1, i2, i3⟩ := hinv
 have hol : o.length <= 21 := by
  have h2 := Lib.itoa_length_le n h0 h1
  rw [itoa_digs hz, <- i3] at h2
  split at h2 <;> simp at h2 <;> omega
 by_cases hx : x = 0
 ·subst hx
  have hd : ((0 : Int) != 0) = false := rfl
  simp (maxSteps := 2000000) only [go_sem, seval, hd]
  apply hK
  have ho : o = digs n.natAbs := i3
  have hfin := itoa_digs hz
  rw [<- ho] at hfin
  cases hn : decide (n < 0) with
  | true =>
   rw [if_pos (of_decide_eq_true hn)] at hfin
   simp (maxSteps := 2000000) only [go_sem, seval, hn, bs_size]
   refine scs ?_
   refine Fin.nt results31 [] ?_ ?_ ?_ <;> try trivial
   (refine rsl ?_; try exact .intro)
   unfold itoaB
   rw [hfin, show (⟨#[45]⟩ : ByteArray) = bs [45] from rfl, bs_app]; rfl
  | false =>
   rw [if_neg (of_decide_eq_false hn)] at hfin
   simp (maxSteps := 2000000) only [go_sem, seval, hn]
   refine Fin.nt results31 [] ?_ ?_ ?_ <;> try trivial
   (refine rsl ?_; try exact .intro)
   unfold itoaB
   rw [hfin]
 ·have hd : (x != 0) = true := by simpa using hx
  have ht := tmod10 x
  have hv := tdiv10 x
  have hvw : IntKind.i64.wrap (x.tdiv 10) = x.tdiv 10 := wrap_id (by omega) (by omega)
  have hm9 : x.natAbs % 10 < 10 := Nat.mod_lt _ (by decide)
  have hw2 : IntKind.i64.wrap (48 + ((x.natAbs % 10 : Nat) : Int)) = ((48 + x.natAbs % 10 : Nat) : Int) := by rw [wrap_id (by omega) (by omega)]; omega
  have hw3 : IntKind.u8.wrap ((48 + x.natAbs % 10 : Nat) : Int) = ((48 + x.natAbs % 10 : Nat) : Int) := by
   show ((48 + x.natAbs % 10 : Nat) : Int) % 256 = _
   omega
  have hb := bytesOf_one (48 + x.natAbs % 10)
  have hnx : digs (x.tdiv 10).natAbs ++ ([UInt8.ofNat (48 + x.natAbs % 10)] ++ o) = digs n.natAbs := by
   rw [hv, <- i3, <- List.append_assoc, <- digs_step (by omega)]
  by_cases hs : x.tmod 10 < 0
  ·have hd1 : decide (x.tmod 10 < 0) = true := decide_eq_true hs
   have hw1 : IntKind.i64.wrap (0 - x.tmod 10) = ((x.natAbs % 10 : Nat) : Int) := by
    rw [ht] at hs ⊢
    split at hs
    ·rename_i hx0; rw [if_pos hx0, wrap_id (by omega) (by omega)]; omega
    ·omega
   simp (maxSteps := 2000000) only [go_sem, seval, hd, hd1, hw1, hw2, hw3, hb, bs_app, hvw, bs_size, List.length_cons, List.length_nil]
   refine scs ?_
   (apply hK
    exact ⟨_, _, by omega, Ent.wk [], x.tdiv 10, ([UInt8.ofNat (48 + x.natAbs % 10)] ++ o), rfl, ⟨by omega, by omega, hnx⟩, rfl⟩)
  ·have hd1 : decide (x.tmod 10 < 0) = false := decide_eq_false hs
   have hw1 : x.tmod 10 = ((x.natAbs % 10 : Nat) : Int) := by
    rw [ht] at hs ⊢
    split at hs
    ·rename_i hx0; rw [if_pos hx0]; omega
    ·rename_i hx0; rw [if_neg hx0]
   rw [hw1] at hd1
   simp (maxSteps := 2000000) only [go_sem, seval, hd, hw1, hd1, hw2, hw3, hb, bs_app, hvw, bs_size, List.length_cons, List.length_nil]
   refine scs ?_
   (apply hK
    exact ⟨_, _, by omega, Ent.wk [], x.tdiv 10, ([UInt8.ofNat (48 + x.natAbs % 10)] ++ o), rfl, ⟨by omega, by omega, hnx⟩, rfl⟩)
def cmdW (k : Int) : ByteArray := bif k == 1 then ⟨#[103, 101, 116]⟩ else bif k == 2 then ⟨#[112, 117, 116]⟩ else bif k == 3 then ⟨#[100, 101, 108]⟩ else ⟨#[97, 100, 100]⟩
def showCmd (k x v : Int) : ByteArray := bif cmdOk k x v then (bif k == 2 || k == 4 then cmdW k ++ decsB [x, v] else cmdW k ++ decsB [x]) else ⟨#[]⟩
theorem cmdOk_in {k x v : Int} (h : cmdOk k x v = true) : (k = 1 \/ k = 2 \/ k = 3 \/ k = 4) /\ inI x /\ inI v := by
 unfold cmdOk within at h
 simp only [Bool.and_eq_true, decide_eq_true_eq, Bool.or_eq_true, beq_iff_eq] at h
 obtain ⟨⟨h1, h2⟩, h3⟩ := h
 exact ⟨by omega, ⟨by omega, by omega⟩, ⟨by omega, by omega⟩⟩
theorem decsB_one (x : Int) : decsB [x] = ⟨#[32]⟩ ++ itoaB x := by
 have := decsB_snoc [] x
 rw [show decsB [] = bs [] from rfl, show (⟨#[32]⟩ : ByteArray) = bs [32] from rfl, itoaB, bs_app, bs_app] at this
 simpa [itoaB, bs_app, show (⟨#[32]⟩ : ByteArray) = bs [32] from rfl] using this
theorem decsB_two (x y : Int) : decsB [x, y] = decsB [x] ++ (⟨#[32]⟩ ++ itoaB y) := decsB_snoc [x] y
theorem tab0 : find tabs 0 = some (.rows 4 wordsT) := rfl
theorem wd0 : (wordsT.getD 0 []).getD 0 default = D.str ⟨#[103, 101, 116]⟩ := rfl
theorem wd1 : (wordsT.getD 0 []).getD 1 default = D.str ⟨#[112, 117, 116]⟩ := rfl
theorem wd2 : (wordsT.getD 0 []).getD 2 default = D.str ⟨#[100, 101, 108]⟩ := rfl
theorem wd3 : (wordsT.getD 0 []).getD 3 default = D.str ⟨#[97, 100, 100]⟩ := rfl
theorem wr0 : IntKind.i64.wrap 0 = 0 := rfl
theorem wr1 : IntKind.i64.wrap 1 = 1 := rfl
theorem wr2 : IntKind.i64.wrap 2 = 2 := rfl
theorem wr3 : IntKind.i64.wrap 3 = 3 := rfl
theorem c11 (k x v : Int) : Ctr prog 11 [.agg [.dat (.int .i64 k), .dat (.int .i64 x), .dat (.int .i64 v)]] [] (.one (.dat (.str (showCmd k x v)))) [] := by
 refine Ctr.bd mixed func11 rfl ?_
 refine evl ?_
 refine scs ?_
 refine ck e32 (c32 ..) rfl ?_
 cases hc : cmdOk k x v with
 | false =>
  simp (maxSteps := 2000000) only [go_sem, seval, hc]
  refine Fin.nt results11 [] ?_ ?_ ?_ <;> try trivial
  (refine rsl ?_; try exact .intro)
  rw [showCmd, hc]; rfl
 | true =>
  obtain ⟨hk, hx, hv⟩ := cmdOk_in hc
  have h1 := c33 [x] (by simp) (by simpa using hx)
  have h2 := c33 [x, v] (by simp) (by simpa using ⟨hx, hv⟩)
  have z1 : (decsB [x]).size <= 22 := decsB_size (l := [x]) (by simpa using hx)
  have z2 : (decsB [x, v]).size <= 44 := decsB_size (l := [x, v]) (by simpa using ⟨hx, hv⟩)
  have zw : ∀ a b c : UInt8, (⟨#[a, b, c]⟩ : ByteArray).size = 3 := fun _ _ _ => rfl
  rcases hk with rfl | rfl | rfl | rfl
  ·simp (maxSteps := 2000000) only [go_sem, seval, hc, tab0, wd0, wr0]
   refine FloatR_intro [(0, []), (1, []), (2, []), (3, []), (4, []), (5, []), (6, []), (7, [0, 1, 2, 3, 4]), (8, [0, 1, 2, 3, 4]), (9, []), (10, [])] (by kernel_rfl) ?_
   refine sv3 ?_
   refine scs ?_
   refine ck e33 (h1) rfl ?_
   refine sv3 ?_
   repeat ((with_reducible show _ = true /\ _); refine ⟨by kernel_rfl, ?_⟩)
   refine scs ?_
   refine Fin.nt results11 [] ?_ ?_ ?_ <;> try trivial
   (refine rsl ?_; try exact .intro)
   rw [showCmd, hc]; rfl
  ·simp (maxSteps := 2000000) only [go_sem, seval, hc, tab0, wd1, wr1]
   refine FloatR_intro [(0, []), (1, []), (2, []), (3, []), (4, []), (5, []), (6, []), (7, []), (8, []), (9, [0, 1, 2, 3, 4]), (10, [0, 1, 2, 3, 4]), (11, []), (12, [])] (by kernel_rfl) ?_
   refine sv3 ?_
   refine scs ?_
   refine ck e33 (h2) rfl ?_
   refine sv3 ?_
   repeat ((with_reducible show _ = true /\ _); refine ⟨by kernel_rfl, ?_⟩)
   refine scs ?_
   refine Fin.nt results11 [] ?_ ?_ ?_ <;> try trivial
   (refine rsl ?_; try exact .intro)
   rw [showCmd, hc]; rfl
  ·simp (maxSteps := 2000000) only [go_sem, seval, hc, tab0, wd2, wr2]
   refine FloatR_intro [(0, []), (1, []), (2, []), (3, []), (4, []), (5, []), (6, []), (7, [0, 1, 2, 3, 4]), (8, [0, 1, 2, 3, 4]), (9, []), (10, [])] (by kernel_rfl) ?_
   refine sv3 ?_
   refine scs ?_
   refine ck e33 (h1) rfl ?_
   refine sv3 ?_
   repeat ((with_reducible show _ = true /\ _); refine ⟨by kernel_rfl, ?_⟩)
   refine scs ?_
   refine Fin.nt results11 [] ?_ ?_ ?_ <;> try trivial
   (refine rsl ?_; try exact .intro)
   rw [showCmd, hc]; rfl
  ·simp (maxSteps := 2000000) only [go_sem, seval, hc, tab0, wd3, wr3]
   refine FloatR_intro [(0, []), (1, []), (2, []), (3, []), (4, []), (5, []), (6, []), (7, []), (8, []), (9, [0, 1, 2, 3, 4]), (10, [0, 1, 2, 3, 4]), (11, []), (12, [])] (by kernel_rfl) ?_
   refine sv3 ?_
   refine scs ?_
   refine ck e33 (h2) rfl ?_
   refine sv3 ?_
   repeat ((with_reducible show _ = true /\ _); refine ⟨by kernel_rfl, ?_⟩)
   refine scs ?_
   refine Fin.nt results11 [] ?_ ?_ ?_ <;> try trivial
   (refine rsl ?_; try exact .intro)
   rw [showCmd, hc]; rfl
theorem c9 (k x v : Int) : Ctr prog 9 [.agg [.dat (.int .i64 k), .dat (.int .i64 x), .dat (.int .i64 v)]] [] (.one (.dat (.str (showCmd k x v)))) [] := by
 refine Ctr.bd mixed func9 rfl ?_
 refine evl ?_
 refine scs ?_
 refine ck e30 (c30 ..) rfl ?_
 cases hc : cmdOk k x v with
 | false =>
  simp (maxSteps := 2000000) only [go_sem, seval, hc]
  refine Fin.nt results9 [] ?_ ?_ ?_ <;> try trivial
  (refine rsl ?_; try exact .intro)
  rw [showCmd, hc]; rfl
 | true =>
  obtain ⟨hk, hx, hv⟩ := cmdOk_in hc
  have h1 := c31 x hx.1 hx.2
  have h2 := c31 v hv.1 hv.2
  have z1 := itoaB_size hx.1 hx.2
  have z2 := itoaB_size hv.1 hv.2
  have zw : ∀ a b c : UInt8, (⟨#[a, b, c]⟩ : ByteArray).size = 3 := fun _ _ _ => rfl
  have zs : (⟨#[32]⟩ : ByteArray).size = 1 := rfl
  rcases hk with rfl | rfl | rfl | rfl
  ·simp (maxSteps := 2000000) only [go_sem, seval, hc, wr0, ByteArray.size_append]
   repeat ((with_reducible show _ = true /\ _); refine ⟨by kernel_rfl, ?_⟩)
   refine scs ?_
   refine ck e31 (h1) rfl ?_
   simp (maxSteps := 2000000) only [go_sem, seval, hc, wr0, ByteArray.size_append]
   refine scs ?_
   refine Fin.nt results9 [] ?_ ?_ ?_ <;> try trivial
   (refine rsl ?_; try exact .intro)
   rw [showCmd, hc]
   simp [cmdW, decsB_one, ByteArray.append_assoc]
  ·simp (maxSteps := 2000000) only [go_sem, seval, hc, wr1, ByteArray.size_append]
   repeat ((with_reducible show _ = true /\ _); refine ⟨by kernel_rfl, ?_⟩)
   refine scs ?_
   refine ck e31 (h1) rfl ?_
   simp (maxSteps := 2000000) only [go_sem, seval, hc, wr1, ByteArray.size_append]
   refine scs ?_
   refine ck e31 (h2) rfl ?_
   simp (maxSteps := 2000000) only [go_sem, seval, hc, ByteArray.size_append]
   refine scs ?_
   refine Fin.nt results9 [] ?_ ?_ ?_ <;> try trivial
   (refine rsl ?_; try exact .intro)
   rw [showCmd, hc]
   simp [cmdW, decsB_two, decsB_one, ByteArray.append_assoc]
  ·simp (maxSteps := 2000000) only [go_sem, seval, hc, wr2, ByteArray.size_append]
   repeat ((with_reducible show _ = true /\ _); refine ⟨by kernel_rfl, ?_⟩)
   refine scs ?_
   refine ck e31 (h1) rfl ?_
   simp (maxSteps := 2000000) only [go_sem, seval, hc, wr2, ByteArray.size_append]
   refine scs ?_
   refine Fin.nt results9 [] ?_ ?_ ?_ <;> try trivial
   (refine rsl ?_; try exact .intro)
   rw [showCmd, hc]
   simp [cmdW, decsB_one, ByteArray.append_assoc]
  ·simp (maxSteps := 2000000) only [go_sem, seval, hc, wr3, ByteArray.size_append]
   repeat ((with_reducible show _ = true /\ _); refine ⟨by kernel_rfl, ?_⟩)
   refine scs ?_
   refine ck e31 (h1) rfl ?_
   simp (maxSteps := 2000000) only [go_sem, seval, hc, wr3, ByteArray.size_append]
   refine scs ?_
   refine ck e31 (h2) rfl ?_
   simp (maxSteps := 2000000) only [go_sem, seval, hc, ByteArray.size_append]
   refine scs ?_
   refine Fin.nt results9 [] ?_ ?_ ?_ <;> try trivial
   (refine rsl ?_; try exact .intro)
   rw [showCmd, hc]
   simp [cmdW, decsB_two, decsB_one, ByteArray.append_assoc]
theorem strsRep {w : World} : ∀ {ns : List ByteArray} {vs : List Value} {S : List Nat}, RepL w (ns.map D.str) vs S -> vs = ns.map Value.string
 | [], _, _, h => by cases h; rfl
 | n :: ns, _, _, h => by
  cases h with
  | cons h1 h2 =>
   cases h1
   rw [strsRep h2]; rfl
def strRows (xs : List ByteArray) : List (List D) := xs.map fun s => [D.str s]
theorem strRows_flat : ∀ xs : List ByteArray, (strRows xs).flatten = xs.map D.str
 | [] => rfl
 | x :: xs => by
  show [D.str x] ++ (strRows xs).flatten = _
  rw [strRows_flat xs]; rfl
theorem strRows_len (xs : List ByteArray) : (strRows xs).length = xs.length := List.length_map ..
theorem strRows_snoc (xs : List ByteArray) (x : ByteArray) : strRows xs ++ [[D.str x]] = strRows (xs ++ [x]) := by unfold strRows; rw [List.map_append]; rfl
theorem Ctr.join {P : Program} {ρ : Go.Shelf.Ren} (L : Go.Proofs.Lays.n156 P ρ) (X : Go.Proofs.Builder.Extra P ρ) (xs : List ByteArray) (sep : ByteArray) (hn : xs.length <= 140737488355328)
  (hlen : (Lib.join (xs.map (·.data.toList)) sep.data.toList).length <= 140737488355328) :
  Ctr P (ρ.f 156) [.one (.dat (.sl 1 (strRows xs))), .one (.dat (.str sep))] [] (.one (.dat (.str ⟨(Lib.join (xs.map (·.data.toList)) sep.data.toList).toArray⟩))) [] where
 clean := rfl
 sep := by simp
 len := Nat.le_refl _
 comp := fun o ho => by simp at ho
 calls := fun w β φ vs hor ha => by
  obtain ⟨g1, g2⟩ := ha
  obtain ⟨v0, hv0, S, hr, _⟩ := g2 0 _ rfl
  obtain ⟨v1, hv1, S1, hr1, _⟩ := g2 1 _ rfl
  cases hr1
  have hvs : vs = #[v0, .string sep] := by
   apply Array.ext_getElem?
   intro i
   match i with
   | 0 => exact hv0
   | 1 => exact hv1
   | i + 2 => rw [Array.getElem?_eq_none (by rw [g1]; simp), Array.getElem?_eq_none (by simp)]
  subst hvs
  have hφ : ∀ o, φ o = [] := fun o => by
   have := hor.objs o
   unfold ObjRel at this
   rw [show (lctx w β φ []).ob o = .dead by simp [lctx, Objs]] at this
   exact this
  have fin : Calls P (ρ.f 156) #[v0, .string sep] w fun e w' => e = .returned (.string ⟨(Lib.join (xs.map (·.data.toList)) sep.data.toList).toArray⟩) /\ Below w.heap.size w w' := by
   generalize hrows : strRows xs = rows at hr
   cases hr with
   | nil sz a cap =>
    have hx : xs = [] := by unfold strRows at hrows; simpa using hrows
    subst hx
    exact (Go.Proofs.Any.strings_Join_none L X a cap sep w).mono fun e w' ⟨he, hw⟩ => ⟨he, hw ▸ Below.refl _ _⟩
   | sl sz rows b off cap vs S hb hsz hl hc hcap =>
    subst hrows
    rw [strRows_flat] at hl
    have hvs := strsRep hl
    rw [strRows_len] at hcap ⊢
    exact Go.Proofs.Any.strings_Join L X b off cap xs sep w (fun j x hj => hc j _ (by rw [hvs, List.getElem?_map, hj]; rfl)) hb hn hcap hlen
  refine fin.mono ?_
  rintro e w' ⟨rfl, hB⟩
  have FR : Frm w (fun b => ∃ o, b ∈ φ o) w' := ⟨hB.os, hB.tape, hB.output, hB.size, fun b hb _ => hB.block b hb⟩
  exact ⟨_, β, φ, rfl, ⟨fun o => by unfold ObjRel; rw [show (lctx w' β φ []).ob o = .dead by simp [lctx, Objs]]; exact hφ o, hor.nodup, hor.disj, fun o b hb => (by rw [hφ] at hb; cases hb), hor.glob.frm FR fun b hb => .inl hb⟩,
   fun _ _ => rfl, fun o b hb => .inr ⟨o, hb⟩, ⟨[], .str _, by simp⟩, FR⟩
theorem extraT : Go.Proofs.Builder.Extra prog YtmgemgeeoconbaaDoor.lays156_ren where
 sizeBuilder := by kernel_rfl
 liesBuilder := by kernel_rfl
 t5 := YtmgemgeeoconbaaDoor.lays171.t5
 a5 := YtmgemgeeoconbaaDoor.lays171.a5
 z5 := YtmgemgeeoconbaaDoor.lays171.z5
 v5 := YtmgemgeeoconbaaDoor.lays171.v5
 infoByte := by kernel_rfl
 cellsByte := by kernel_rfl
 sizeByte := by kernel_rfl
 neB5 := by decide
def joinB (xs : List ByteArray) : ByteArray := bs (Lib.join (xs.map (·.data.toList)) [59])
theorem c43 (xs : List ByteArray) (hn : xs.length <= 1048576) (hlen : (joinB xs).size <= 1048576) : Ctr prog 43 [.one (.dat (.sl 1 (strRows xs))), .one (.dat (.str ⟨#[59]⟩))] [] (.one (.dat (.str (joinB xs)))) [] :=
 Ctr.join YtmgemgeeoconbaaDoor.lays156 extraT xs ⟨#[59]⟩ (by omega) (by rw [joinB, bs_size] at hlen; exact Nat.le_trans hlen (by decide))
def showCmdC (c : Cmd) : ByteArray := showCmd c.Kind c.Key c.Val
def showBatch (b : Batch) : ByteArray := bif batchOk b then (bif b.Collect then ⟨#[99, 111, 108, 108, 101, 99, 116]⟩ else joinB (b.Cmds.map showCmdC)) else ⟨#[]⟩
theorem cmdW_size (k : Int) : (cmdW k).size = 3 := by
 unfold cmdW
 cases k == 1 <;> cases k == 2 <;> cases k == 3 <;> rfl
theorem showCmd_size (k x v : Int) : (showCmd k x v).size <= 47 := by
 unfold showCmd
 cases h : cmdOk k x v with
 | false => exact Nat.zero_le _
 | true =>
  obtain ⟨_, hx, hv⟩ := cmdOk_in h
  have z1 : (decsB [x]).size <= 22 := decsB_size (l := [x]) (by simpa using hx)
  have z2 : (decsB [x, v]).size <= 44 := decsB_size (l := [x, v]) (by simpa using ⟨hx, hv⟩)
  have z3 := cmdW_size k
  cases (k == 2 || k == 4) <;> simp only [cond_true, cond_false, ByteArray.size_append] <;> omega
theorem bs_data (x : ByteArray) : bs x.data.toList = x := by unfold bs; rfl
theorem joinB_one (x : ByteArray) : joinB [x] = x := by
 unfold joinB
 rw [List.map_cons, List.map_nil, Lib.join_one, bs_data]
theorem joinB_snoc {l : List ByteArray} (h : l ≠ []) (x : ByteArray) : joinB (l ++ [x]) = (joinB l ++ ⟨#[59]⟩) ++ x := by
 cases l with
 | nil => exact absurd rfl h
 | cons y r =>
  unfold joinB
  rw [List.cons_append, List.map_cons, Lib.join_cons, List.map_cons, Lib.join_cons, List.map_append, List.map_cons, List.map_nil]
  conv => rhs; rw [<- bs_data x, show (⟨#[59]⟩ : ByteArray) = bs [59] from rfl, bs_app, bs_app]
  congr 1
  unfold Lib.joinTail
  rw [List.map_append, List.flatten_append]
  simp
theorem joinTail_len : ∀ {r : List (List UInt8)}, (∀ x ∈ r, x.length <= 47) -> (Lib.joinTail [59] r).length <= 48 * r.length
 | [], _ => Nat.zero_le _
 | x :: r, h => by
  have h1 := joinTail_len (r := r) fun y hy => h y (by simp [hy])
  have h2 := h x (by simp)
  unfold Lib.joinTail at h1 ⊢
  rw [List.map_cons, List.flatten_cons, List.length_append, List.length_append, List.length_cons, List.length_cons, List.length_nil]
  omega
theorem joinB_size {l : List ByteArray} (h : ∀ x ∈ l, x.size <= 47) : (joinB l).size <= 48 * l.length := by
 cases l with
 | nil => exact Nat.zero_le _
 | cons y r =>
  unfold joinB
  rw [bs_size, List.map_cons, Lib.join_cons, List.length_append, List.length_cons]
  have h1 := joinTail_len (r := r.map (·.data.toList)) fun z hz => by
   obtain ⟨x, hx, rfl⟩ := List.mem_map.1 hz
   rw [Array.length_toList]; exact h x (by simp [hx])
  have h2 : y.data.toList.length <= 47 := by rw [Array.length_toList]; exact h y (by simp)
  rw [List.length_map] at h1
  omega
theorem showAll_size (l : List Cmd) : (joinB (l.map showCmdC)).size <= 48 * l.length := by
 have := joinB_size (l := l.map showCmdC) fun x hx => by
  obtain ⟨c, _, rfl⟩ := List.mem_map.1 hx
  exact showCmd_size ..
 rwa [List.length_map] at this
theorem batchOk_len {b : Batch} (h : batchOk b = true) (hc : b.Collect = false) : b.Cmds.length <= 6 := by
 unfold batchOk at h
 rw [hc] at h
 simp only [cond_false, Bool.and_eq_true, within, decide_eq_true_eq] at h
 omega
theorem c18 (b : Batch) (hl : b.Cmds.length <= 1048576) : Ctr prog 18 [.agg ((encBatch b).map .dat)] [] (.one (.dat (.str (showBatch b)))) [] := by
 have hmx : maxLen = 9223372036854775807 := rfl
 simp only [encBatch, List.map_cons, List.map_nil]
 refine Ctr.bd mixed func18 rfl ?_
 refine evl ?_
 refine scs ?_
 refine ck e42 (c42 b (by omega)) rfl ?_
 cases hok : batchOk b with
 | false =>
  simp (maxSteps := 2000000) only [go_sem, seval, hok]
  refine Fin.nt results18 [] ?_ ?_ ?_ <;> try trivial
  (refine rsl ?_; try exact .intro)
  rw [showBatch, hok]; rfl
 | true =>
  cases hc : b.Collect with
  | true =>
   refine sv4 ?_
   refine Fin.nt results18 [] ?_ ?_ ?_ <;> try trivial
   (refine rsl ?_; try exact .intro)
   rw [showBatch, hok, hc]; rfl
  | false =>
   have h6 := batchOk_len hok hc
   refine sv4 ?_
   refine scs ?_
   refine LoopK_intro (fun zn zs => ∃ (i : Nat) (ws : List ByteArray), i <= b.Cmds.length /\ zn = b.Cmds.length - i /\ (ws = (b.Cmds.take i).map showCmdC) /\ zs = mkSt [(17, .one (.dat (.int .i64 i))), (16, .one (.dat (.int .i64 (b.Cmds.length)))), (15, .one (.dat (.sl 3 (b.Cmds.map encCmd)))), (1, .one (.ptr (.own 0 0 0))), (3, .one (.own 1))] [.box [.dat (.bool false), .dat (.sl 3 (b.Cmds.map encCmd))], .vec 1 true (strRows ws)]) (b.Cmds.length) _
    (Ent.wk [0, 1]) ⟨0, [], by omega, by omega, rfl, rfl⟩ ?_
   rintro zn zs ⟨i, ws, hi, rfl, hinv, rfl⟩ K hK
   rcases Nat.lt_or_ge i (b.Cmds.length) with hlt | hge
   ·have hdi : decide ((i : Int) < ((b.Cmds.length : Nat) : Int)) = true := decide_eq_true (by omega)
    have hw := wrap_succ hlt (by omega)
    have hwl : ws.length <= 6 := by rw [hinv, List.length_map, List.length_take]; omega
    simp (maxSteps := 2000000) only [go_sem, seval, hdi, hw, getD_map hlt, encCmd, strRows_len]
    refine scs ?_
    refine ck e11 (c11 ..) rfl ?_
    simp (maxSteps := 2000000) only [go_sem, seval, hw, strRows_len, strRows_snoc]
    refine scs ?_
    (apply hK
     exact ⟨b.Cmds.length - (i + 1), _, by omega, Ent.wk [0, 4], i + 1, (ws ++ [showCmd b.Cmds[i].Kind b.Cmds[i].Key b.Cmds[i].Val]), by omega, rfl, by rw [hinv, List.take_succ_eq_append_getElem hlt, List.map_append]; rfl, rfl⟩)
   ·have hge' : b.Cmds.length = i := by omega
    subst hge'
    have hdi : decide (((b.Cmds.length : Nat) : Int) < ((b.Cmds.length : Nat) : Int)) = false := by simp
    rw [List.take_length] at hinv
    have hz := showAll_size b.Cmds
    rw [<- hinv] at hz
    have hwl : ws.length <= 6 := by rw [hinv, List.length_map]; omega
    refine sv2 ?_
    apply hK
    refine evl ?_
    refine ck e43 (c43 ws (by omega) (by omega)) rfl ?_
    refine evl ?_
    refine Fin.nt results18 [] ?_ ?_ ?_ <;> try trivial
    (refine rsl ?_; try exact .intro)
    rw [showBatch, hok, hc, hinv]; rfl
theorem c16 (b : Batch) (hl : b.Cmds.length <= 1048576) : Ctr prog 16 [.agg ((encBatch b).map .dat)] [] (.one (.dat (.str (showBatch b)))) [] := by
 have hmx : maxLen = 9223372036854775807 := rfl
 simp only [encBatch, List.map_cons, List.map_nil]
 refine Ctr.bd mixed func16 rfl ?_
 refine evl ?_
 refine scs ?_
 refine ck e40 (c40 b (by omega)) rfl ?_
 cases hok : batchOk b with
 | false =>
  simp (maxSteps := 2000000) only [go_sem, seval, hok]
  refine Fin.nt results16 [] ?_ ?_ ?_ <;> try trivial
  (refine rsl ?_; try exact .intro)
  rw [showBatch, hok]; rfl
 | true =>
  cases hc : b.Collect with
  | true =>
   refine sv4 ?_
   refine Fin.nt results16 [] ?_ ?_ ?_ <;> try trivial
   (refine rsl ?_; try exact .intro)
   rw [showBatch, hok, hc]; rfl
  | false =>
   have h6 := batchOk_len hok hc
   refine sv4 ?_
   refine LoopK_intro (fun zn zs => ∃ (i : Nat) (o : ByteArray), i <= b.Cmds.length /\ zn = b.Cmds.length - i /\ (o = joinB ((b.Cmds.take i).map showCmdC)) /\ zs = mkSt [(4, .one (.dat (.int .i64 i))), (1, .one (.ptr (.own 0 0 0))), (3, .one (.dat (.str o)))] [.box [.dat (.bool false), .dat (.sl 3 (b.Cmds.map encCmd))]]) (b.Cmds.length) _
    (Ent.wk [0]) ⟨0, ⟨#[]⟩, by omega, by omega, rfl, rfl⟩ ?_
   rintro zn zs ⟨i, o, hi, rfl, hinv, rfl⟩ K hK
   rcases Nat.lt_or_ge i (b.Cmds.length) with hlt | hge
   ·have hdi : decide ((i : Int) < ((b.Cmds.length : Nat) : Int)) = true := decide_eq_true (by omega)
    have hw := wrap_succ hlt (by omega)
    have hz := showAll_size (b.Cmds.take i)
    rw [<- hinv, List.length_take] at hz
    have hs := showCmd_size b.Cmds[i].Kind b.Cmds[i].Key b.Cmds[i].Val
    have h1 : (⟨#[59]⟩ : ByteArray).size = 1 := rfl
    have hnext : (b.Cmds.take (i + 1)).map showCmdC = (b.Cmds.take i).map showCmdC ++ [showCmdC b.Cmds[i]] := by rw [List.take_succ_eq_append_getElem hlt, List.map_append]; rfl
    by_cases hi0 : i = 0
    ·have hd0 : decide ((0 : Int) < (i : Int)) = false := decide_eq_false (by omega)
     simp (maxSteps := 2000000) only [go_sem, seval, hdi, hw, hd0, getD_map hlt, encCmd]
     refine scs ?_
     refine ck e9 (c9 ..) rfl ?_
     refine sv0 ?_
     refine scs ?_
     (apply hK
      exact ⟨b.Cmds.length - (i + 1), _, by omega, Ent.wk [0], i + 1, (o ++ showCmd b.Cmds[i].Kind b.Cmds[i].Key b.Cmds[i].Val), by omega, rfl, by rw [hnext, hinv, show b.Cmds.take i = [] by rw [hi0]; rfl, List.map_nil, List.nil_append, joinB_one]; exact ByteArray.empty_append, rfl⟩)
    ·have hd0 : decide ((0 : Int) < (i : Int)) = true := decide_eq_true (by omega)
     simp (maxSteps := 2000000) only [go_sem, seval, hdi, hw, hd0, getD_map hlt, encCmd]
     refine scs ?_
     refine ck e9 (c9 ..) rfl ?_
     simp (maxSteps := 2000000) only [go_sem, seval, hw, ByteArray.size_append]
     refine scs ?_
     (apply hK
      exact ⟨b.Cmds.length - (i + 1), _, by omega, Ent.wk [0], i + 1, (o ++ ⟨#[59]⟩ ++ showCmd b.Cmds[i].Kind b.Cmds[i].Key b.Cmds[i].Val), by omega, rfl, by rw [hnext, joinB_snoc (by intro e; have h9 := congrArg List.length e; rw [List.length_map, List.length_take, List.length_nil] at h9; omega), <- hinv]; rfl, rfl⟩)
   ·have hge' : b.Cmds.length = i := by omega
    subst hge'
    have hdi : decide (((b.Cmds.length : Nat) : Int) < ((b.Cmds.length : Nat) : Int)) = false := by simp
    rw [List.take_length] at hinv
    refine sv2 ?_
    apply hK
    refine evl ?_
    refine Fin.nt results16 [] ?_ ?_ ?_ <;> try trivial
    (refine rsl ?_; try exact .intro)
    rw [showBatch, hok, hc, hinv]; rfl
end Go.Proofs.YtmgemgeeoconbaaDoor.Mod
namespace Go.Proofs.YtmgemgeeoconbaaDoor.fnExactShowBatch
open Go.Proofs.Tryd Go.Abs Go.Proofs.YtmgemgeeoconbaaDoor.Ty Go.ChangeShapes Go.WideShapes Go.ChangeAt Go.RowKit Go.Proofs.YtmgemgeeoconbaaDoor.Mod
set_option linter.unusedSimpArgs false
set_option linter.unusedVariables false
set_option maxHeartbeats 8000000
set_option maxRecDepth 100000
theorem c5 (b : Batch) (hkb : b.lok) : Ctr prog 5 [.agg ((encBatch b).map .dat)] [] (.one (.dat (.bool true))) [] := by
 simp only [encBatch, List.map_cons, List.map_nil]
 refine Ctr.bd mixed func5 rfl ?_
 refine sv1 ?_
 repeat ((with_reducible show _ = true /\ _); refine ⟨by kernel_rfl, ?_⟩)
 refine CallK_pure e15 (c15 b hkb 1048576 (by decide) (by decide)) rfl ?_
 refine sv1 ?_
 repeat ((with_reducible show _ = true /\ _); refine ⟨by kernel_rfl, ?_⟩)
 constructor <;> intro h
 ·refine Fin.nt results5 [] ?_ ?_ ?_ <;> try trivial
 obtain ⟨hsb, hzb, hgb, hhb⟩ := szL_le (by decide) h
 clear h
 repeat ((with_reducible show _ = true /\ _); refine ⟨by kernel_rfl, ?_⟩)
 first
  | refine CallK_pure e17 (c17 b hsb) rfl ?_
  | refine CCallK_plain e17 (c17 b hsb) rfl rfl ?_ (fun _ => by simp)
  | refine Or.inl (CCallK_plain e17 (c17 b hsb) rfl rfl ?_ (fun _ => by simp))
  | refine Or.inr ⟨by kernel_rfl, EffK_pure e17 (c17 b hsb) rfl ?_⟩
  | refine Or.inr (EffK_pure e17 (c17 b hsb) rfl ?_)
 refine sv1 ?_
 repeat ((with_reducible show _ = true /\ _); refine ⟨by kernel_rfl, ?_⟩)
 first
  | refine CallK_pure e16 (c16 b (by unfold sizBatch at hsb; omega)) rfl ?_
  | refine CCallK_plain e16 (c16 b (by unfold sizBatch at hsb; omega)) rfl rfl ?_ (fun _ => by simp)
  | refine Or.inl (CCallK_plain e16 (c16 b (by unfold sizBatch at hsb; omega)) rfl rfl ?_ (fun _ => by simp))
  | refine Or.inr ⟨by kernel_rfl, EffK_pure e16 (c16 b (by unfold sizBatch at hsb; omega)) rfl ?_⟩
  | refine Or.inr (EffK_pure e16 (c16 b (by unfold sizBatch at hsb; omega)) rfl ?_)
 refine sv1 ?_
 repeat ((with_reducible show _ = true /\ _); refine ⟨by kernel_rfl, ?_⟩)
 first
  | refine CallK_pure e17 (c17 b hsb) rfl ?_
  | refine CCallK_plain e17 (c17 b hsb) rfl rfl ?_ (fun _ => by simp)
  | refine Or.inl (CCallK_plain e17 (c17 b hsb) rfl rfl ?_ (fun _ => by simp))
  | refine Or.inr ⟨by kernel_rfl, EffK_pure e17 (c17 b hsb) rfl ?_⟩
  | refine Or.inr (EffK_pure e17 (c17 b hsb) rfl ?_)
 refine sv1 ?_
 repeat ((with_reducible show _ = true /\ _); refine ⟨by kernel_rfl, ?_⟩)
 first
  | refine CallK_pure e18 (c18 b (by unfold sizBatch at hsb; omega)) rfl ?_
  | refine CCallK_plain e18 (c18 b (by unfold sizBatch at hsb; omega)) rfl rfl ?_ (fun _ => by simp)
  | refine Or.inl (CCallK_plain e18 (c18 b (by unfold sizBatch at hsb; omega)) rfl rfl ?_ (fun _ => by simp))
  | refine Or.inr ⟨by kernel_rfl, EffK_pure e18 (c18 b (by unfold sizBatch at hsb; omega)) rfl ?_⟩
  | refine Or.inr (EffK_pure e18 (c18 b (by unfold sizBatch at hsb; omega)) rfl ?_)
 refine sv1 ?_
 repeat ((with_reducible show _ = true /\ _); refine ⟨by kernel_rfl, ?_⟩)
 first
  | refine CallK_pure e17 (c17 b hsb) rfl ?_
  | refine CCallK_plain e17 (c17 b hsb) rfl rfl ?_ (fun _ => by simp)
  | refine Or.inl (CCallK_plain e17 (c17 b hsb) rfl rfl ?_ (fun _ => by simp))
  | refine Or.inr ⟨by kernel_rfl, EffK_pure e17 (c17 b hsb) rfl ?_⟩
  | refine Or.inr (EffK_pure e17 (c17 b hsb) rfl ?_)
 refine sv1 ?_
 repeat ((with_reducible show _ = true /\ _); refine ⟨by kernel_rfl, ?_⟩)
 first
  | refine CallK_pure e19 (c19 b b hsb hsb) rfl ?_
  | refine CCallK_plain e19 (c19 b b hsb hsb) rfl rfl ?_ (fun _ => by simp)
  | refine Or.inl (CCallK_plain e19 (c19 b b hsb hsb) rfl rfl ?_ (fun _ => by simp))
  | refine Or.inr ⟨by kernel_rfl, EffK_pure e19 (c19 b b hsb hsb) rfl ?_⟩
  | refine Or.inr (EffK_pure e19 (c19 b b hsb hsb) rfl ?_)
 refine sv1 ?_
 repeat ((with_reducible show _ = true /\ _); refine ⟨by kernel_rfl, ?_⟩)
 refine Fin.nt results5 [] ?_ ?_ ?_ <;> try trivial
theorem law (dss : List (List D)) (h : WTAll prog 8 f5.params.toList dss) : Ctr prog 5 (argAVs prog f5.params.toList dss) [] (.one (.dat (.bool true))) [] := by
 rw [params5] at *
 simp only [WTAll, List.toList_toArray] at h
 obtain ⟨_, _, rfl, h0, rfl⟩ := h
 obtain ⟨x0, rfl, w0, k0⟩ := decBatch _ _ h0
 simp only [argAVs, argAV, List.toList_toArray, underlying36, List.headD_cons]
 exact c5 x0 k0

theorem own : ownKnob prog.godebug = none := by kernel_rfl
theorem door_met (os : Os) (args : Array Value) : laidMetH prog Rows.fnExactShowBatchRow.laid ((World.doorLaid prog 77 os).forCall (fun _ _ => 0) ⟨#[], args, []⟩).memory :=
 laidMetH_of_parts3 (fuel := 8) (laidMet_of_run' 8 (by kernel_rfl) (by kernel_rfl)) (by kernel_rfl) (by kernel_rfl)
theorem glob {W : World} (h : laidMetH prog Rows.fnExactShowBatchRow.laid W) : GlobOk W (fun _ => False) := by
 rw [MakeChecks.laidMetH_plain _ _ _ (by kernel_rfl)] at h
 intro t ht
 simp only [tabs, List.mem_cons, List.not_mem_nil, or_false] at ht
 rcases ht with rfl | rfl
 ·obtain ⟨T, fr, hw⟩ := words_of_laid (name := "loop.example/g01538/impl.cmdWords") (ws := [[103, 101, 116], [112, 117, 116], [100, 101, 108], [97, 100, 100]]) (g := 0) (t := 58) (e := 9) (n := 4) (by kernel_rfl) (by kernel_rfl) underlying58 underlying9 (by kernel_rfl) (by kernel_rfl) h.tail.tail.tail
  exact ⟨id, by simp [wordsT], _, T, fr, hw, strs_repl [⟨#[103, 101, 116]⟩, ⟨#[112, 117, 116]⟩, ⟨#[100, 101, 108]⟩, ⟨#[97, 100, 100]⟩]⟩
 ·have hT := Lib.tabIs_of_head (k := .u64) (zs := Lib.pow10Tab) (g := 6) (t := 135) (e := 116) (n := 20) (by kernel_rfl) (by kernel_rfl) underlying135 underlying116 (by kernel_rfl) (by kernel_rfl) h.tail.tail
  obtain ⟨T, fr, hw⟩ := heap_of_var (by kernel_rfl) hT
  exact ⟨id, by simp [pow10T], _, T, fr, hw, ints_repl .u64 Lib.pow10Tab⟩
set_option maxRecDepth 100000 in
theorem lifted (os : Os) (started : os.Started) (H : Type) (enc : TypeId × Value -> H) :
  ReturnsInHanded {} Tryd.checked os 5 .any (fun w args => (Rows.fnExactShowBatchSpec.pre enc prog f5 [] false w args /\ laidMetH prog Rows.fnExactShowBatchRow.laid w) /\ sizedMet enc prog f5 (OpenSpec.ofChange Rows.fnExactShowBatchSpec) false w args)
   (Rows.fnExactShowBatchSpec.post enc prog f5 false true false false) := by
 refine returnsInHanded_of_change_and (C := Tryd.checked) (X := fun w _ => laidMetH prog Rows.fnExactShowBatchRow.laid w) (fun _ _ _ hh h => h.of_heap hh) own started (by kernel_rfl) func5
  (ChangeSpec.witness_shaped (enc := enc) (C := Tryd.checked) (os := os) (X := fun w _ => laidMetH prog Rows.fnExactShowBatchRow.laid w) false (World.doorLaid prog 77 os) #[.agg #[.bool false, .slice none 0 0]] 8 rfl (World.shaped_of_RefB (by kernel_rfl) (by kernel_rfl)) (by kernel_rfl) (by kernel_rfl) (by kernel_rfl) (door_met os _)) ?_
 intro W base args ds gs before hval0 hW _ _ hL _
 have hW' := hW
 obtain ⟨p, q, hA0, hV, rfl, hfz, hnd⟩ := hW'
 have hA : DataW.TrodAll enc prog W 0 (fun _ => true) true f5.params.toList args.toList ds p := hA0
 obtain ⟨dss, h1, h2⟩ := args_rep (n := 8) (by kernel_rfl) (fun j t v hj hv => hval0 j t v (by simpa using hj) (by simpa using hv)) hA
 have hs : Rows.fnExactShowBatchSpec.fn H (ds ++ gs) = { results := [.lit (.bool true)], args := ds, vars := gs } := by
  obtain ⟨_, _, _, _, g1, _, rfl, _⟩ := trodVars_one hV
  rw [params5] at hA
  obtain ⟨v0, vs0, d0, ds0, p0, q0, _, rfl, _, _, r0⟩ := trodAll_cons hA
  obtain ⟨_, rfl, _⟩ := trodAll_nil r0
  rfl
 have hc := law_calls (law dss h1) h2 (glob hL)
 rw [Array.toArray_toList] at hc
 refine hc.mono fun e W' ⟨he, hb⟩ => ?_
 subst he
 exact ⟨_, rfl, law_postV (by kernel_rfl) (by kernel_rfl) (by kernel_rfl) hW hs rfl underlying4 hb⟩

theorem closed : joinedFacts prog 5 f5 Rows.fnExactShowBatchSpec Rows.fnExactShowBatchRow = true := by
 unfold joinedFacts
 simp only [Bool.and_eq_true, Whole.laidOut, Whole.rowed, Whole.stops, Whole.knobs, Whole.keys, Whole.heard, Whole.enter, Whole.lifts, Whole.make, true_and, and_true]
 repeat' (refine And.intro ?_ ?_)
 all_goals (as_aux_lemma => kernel_rfl)

theorem over : Rows.fnExactShowBatchRow.holds Tryd.pinned (OpenSpec.ofChange Rows.fnExactShowBatchSpec) :=
 OpenClaim.holds_of_wide 5 f5 rfl rfl rfl rfl rfl rfl rfl ⟨rfl, rfl, rfl, rfl, rfl⟩ rfl rfl rfl rfl rfl (by kernel_rfl) func5 closed
  (of_decide_eq_true (by kernel_rfl)) (by unfold Func.isWrapper; first | (rw [if_pos (by decide +kernel)]; kernel_rfl) | (rw [if_neg (by decide +kernel)]; exact ⟨rfl, rfl⟩))
  (fun os started H enc _ => lifted os started H enc)

theorem proved : Rows.FnExactShowBatchCardSaid :=
 Claim7.holds_tied_plain_at .later [] [.data, .data, .data, .widerDeep] true (true, "0d0865db12b8f5393674d66c1f0752417bf5fd0889710cf42c65f32ea9d913d2") true
  over (fun _ h => by cases h) (by kernel_rfl) (fun _ h => by cases h) fnExactShowBatch_row_tie rfl ⟨rfl, rfl⟩ (by kernel_rfl) rfl
  (fun f fn hf hfn => by
    obtain rfl : f = 5 := (Option.some.inj ((show prog.funcNamed "loop.example/g01538/laws.FnExactShowBatch" = some 5 by kernel_rfl).symm.trans hf)).symm
    obtain rfl : fn = f5 := (Option.some.inj (func5.symm.trans hfn)).symm
    exact ⟨by kernel_rfl, fun j t ht => by
     rw [params5] at ht
     rcases j with _ | j
     ·obtain rfl := (show _ = t by simpa using ht)
      kernel_rfl
     ·simp at ht⟩)
  (by kernel_rfl)
end Go.Proofs.YtmgemgeeoconbaaDoor.fnExactShowBatch
