/- FnExactShowOp: the program answers as the statement says, at every argument. -/
import Derived.Test.YtmgemgeeoconbaaDoorRows
import Derived.Test.YtmgemgeeoconbaaDoorETy
import Derived.Test.YtmgemgeeoconbaaDoorAbsTac
import Derived.Test.YtmgemgeeoconbaaDoorAbsData
import Derived.Test.YtmgemgeeoconbaaDoorWhole
import Derived.Test.YtmgemgeeoconbaaDoorLaidT
import Derived.Test.YtmgemgeeoconbaaDoorAbsCard
import Derived.Test.YtmgemgeeoconbaaDoorCards
import Derived.Test.YtmgemgeeoconbaaDoorTie
import Derived.Test.YtmgemgeeoconbaaDoorEBase
import Derived.Test.YtmgemgeeoconbaaDoorENum
import Derived.Test.YtmgemgeeoconbaaDoorEFam
import Derived.Test.YtmgemgeeoconbaaDoorEFam2
import Derived.Test.YtmgemgeeoconbaaDoorEHeap
import Derived.Test.YtmgemgeeoconbaaDoorELists
import Derived.Test.YtmgemgeeoconbaaDoorEStore
import Derived.Test.YtmgemgeeoconbaaDoorESame
import Derived.Test.YtmgemgeeoconbaaDoorEValid
import Derived.WalkKit
import Derived.ProofKit
import Derived.OpenShut
namespace Go.Proofs.YtmgemgeeoconbaaDoor.Mod
open Go.Proofs.Tryd Go.Abs Go.Proofs.YtmgemgeeoconbaaDoor.Ty Go.ChangeShapes Go.WideShapes Go.ChangeAt Go.RowKit
set_option linter.unusedSimpArgs false
set_option linter.unusedVariables false
set_option maxHeartbeats 8000000
set_option maxRecDepth 100000
def bs (l : List UInt8) : ByteArray := ⟨l.toArray⟩
theorem bs_app (a b : List UInt8) : bs a ++ bs b = bs (a ++ b) := by apply ByteArray.ext; simp [bs]
theorem bs_size (a : List UInt8) : (bs a).size = a.length := by simp [bs, ByteArray.size]
def itoaB (n : Int) : ByteArray := bs (Lib.itoa n)
theorem itoaB_size {n : Int} (h0 : -9223372036854775808 <= n) (h1 : n <= 9223372036854775807) : (itoaB n).size <= 21 := by
 unfold itoaB; rw [bs_size]; exact Lib.itoa_length_le n h0 h1
def digs (m : Nat) : List UInt8 := if m = 0 then [] else Lib.decDigits m
theorem digs_step {m : Nat} (h : m ≠ 0) : digs m = digs (m / 10) ++ [UInt8.ofNat (48 + m % 10)] := by
 unfold digs
 rw [if_neg h]
 by_cases h9 : m < 10
 ·rw [if_pos (by omega), Lib.decDigits, dif_pos h9, Nat.mod_eq_of_lt h9]; rfl
 ·rw [if_neg (by omega), Lib.decDigits, dif_neg h9]
theorem itoa_digs {n : Int} (h : n ≠ 0) : Lib.itoa n = if n < 0 then 45 :: digs n.natAbs else digs n.natAbs := by
 unfold Lib.itoa digs
 have h0 : ¬ n.natAbs = 0 := by omega
 by_cases hn : n < 0
 ·simp only [hn, if_true, h0, if_false]
 ·simp only [hn, h0, if_false]; rw [show n.toNat = n.natAbs by omega]
theorem tmod10 (x : Int) : x.tmod 10 = if x < 0 then -((x.natAbs % 10 : Nat) : Int) else ((x.natAbs % 10 : Nat) : Int) := by
 by_cases h : x < 0
 ·rw [if_pos h]
  obtain ⟨m, rfl⟩ : ∃ m : Nat, x = -(m : Int) := ⟨x.natAbs, by omega⟩
  rw [Int.neg_tmod, Int.natAbs_neg, Int.natAbs_natCast]; rfl
 ·rw [if_neg h]
  obtain ⟨m, rfl⟩ : ∃ m : Nat, x = (m : Int) := ⟨x.natAbs, by omega⟩
  rfl
theorem tdiv10 (x : Int) : (x.tdiv 10).natAbs = x.natAbs / 10 := by rw [Int.natAbs_tdiv]; rfl
theorem bytesOf_one (k : Nat) : bytesOf [(k : Int)] = bs [UInt8.ofNat k] := rfl
theorem itoaB_zero : itoaB 0 = ⟨#[48]⟩ := by
 unfold itoaB Lib.itoa bs
 rw [if_neg (by decide), show (0 : Int).toNat = 0 from rfl, Lib.decDigits, dif_pos (by decide)]; rfl
def decsB (l : List Int) : ByteArray := bs (l.flatMap fun n => 32 :: Lib.itoa n)
theorem decsB_snoc (l : List Int) (n : Int) : decsB (l ++ [n]) = decsB l ++ (⟨#[32]⟩ ++ itoaB n) := by
 unfold decsB itoaB
 rw [show (⟨#[32]⟩ : ByteArray) = bs [32] from rfl, bs_app, bs_app, List.flatMap_append]; simp
def inI (n : Int) : Prop := -9223372036854775808 <= n /\ n <= 9223372036854775807
theorem decsB_size : ∀ {l : List Int}, (∀ n ∈ l, inI n) -> (decsB l).size <= 22 * l.length
 | [], _ => by simp [decsB, bs_size]
 | x :: l, h => by
  have h1 := decsB_size (l := l) fun n hn => h n (by simp [hn])
  have h2 := Lib.itoa_length_le x (h x (by simp)).1 (h x (by simp)).2
  unfold decsB at h1 ⊢
  rw [bs_size] at h1 ⊢
  rw [List.flatMap_cons, List.length_append, List.length_cons, List.length_cons]; omega
theorem Ctr.itoa {P : Program} {ρ : Go.Shelf.Ren} (L : Go.Proofs.LaysM.n171 P ρ) (htab : ∀ w X, GlobOk w X -> Lib.TabIs P w "internal/strconv.uint64pow10" .u64 Lib.pow10Tab) (n : Int) (h0 : -9223372036854775808 <= n) (h1 : n <= 9223372036854775807) :
  Ctr P (ρ.f 171) [.one (.dat (.int .i64 n))] [] (.one (.dat (.str ⟨(Lib.itoa n).toArray⟩))) [] where
 clean := rfl
 sep := by simp
 len := Nat.le_refl _
 comp := fun o ho => by simp at ho
 calls := fun w β φ vs hor ha => by
  obtain ⟨g1, g2⟩ := ha
  obtain ⟨v, hv, S, hr, _⟩ := g2 0 _ rfl
  cases hr
  have hvs : vs = #[.int .i64 n] := by
   apply Array.ext_getElem?
   intro i
   match i with
   | 0 => exact hv
   | i + 1 => rw [Array.getElem?_eq_none (by rw [g1]; simp), Array.getElem?_eq_none (by simp)]
  subst hvs
  have hφ : ∀ o, φ o = [] := fun o => by
   have := hor.objs o
   unfold ObjRel at this
   rw [show (lctx w β φ []).ob o = .dead by simp [lctx, Objs]] at this
   exact this
  refine (Go.Proofs.Any.strconv_Itoa L n h0 h1 w (htab w _ hor.glob)).mono ?_
  rintro e w' ⟨rfl, k, os, rfl⟩
  have FR : Frm w (fun b => ∃ o, b ∈ φ o) (Go.Sort.grow (w.drewN k) os) :=
   ⟨rfl, rfl, rfl, by simp, fun b hb hx => Go.Sort.heap_grow_old _ _ hb⟩
  exact ⟨_, β, φ, rfl, ⟨fun o => by unfold ObjRel; rw [show (lctx (Go.Sort.grow (w.drewN k) os) β φ []).ob o = .dead by simp [lctx, Objs]]; exact hφ o, hor.nodup, hor.disj, fun o b hb => (by rw [hφ] at hb; cases hb), hor.glob.frm FR fun b hb => .inl hb⟩,
   fun _ _ => rfl, fun o b hb => .inr ⟨o, hb⟩, ⟨[], .str _, by simp⟩, FR⟩
theorem intsRep {w : World} : ∀ {k : IntKind} {ns : List Int} {vs : List Value} {S : List Nat}, RepL w (ns.map (D.int k)) vs S -> vs = ns.map (Value.int k)
 | _, [], _, _, h => by cases h; rfl
 | k, n :: ns, _, _, h => by
  cases h with
  | cons h1 h2 =>
   cases h1
   rw [intsRep h2]; rfl
theorem pow10_is (w : World) (X : Nat -> Prop) (h : GlobOk w X) : Lib.TabIs prog w "internal/strconv.uint64pow10" .u64 Lib.pow10Tab := by
 obtain ⟨_, _, cs, T, fr, h1, h2⟩ := h (6, .rows 20 pow10T) (by simp [tabs])
 unfold Lib.TabIs World.var?
 rw [show prog.globalNamed "internal/strconv.uint64pow10" = some 6 by kernel_rfl, Option.bind_some, h1]
 have h3 := intsRep (k := .u64) (ns := Lib.pow10Tab) h2
 show some cs = _
 rw [<- h3]
theorem c64 (n : Int) (h0 : -9223372036854775808 <= n) (h1 : n <= 9223372036854775807) : Ctr prog 64 [.one (.dat (.int .i64 n))] [] (.one (.dat (.str (itoaB n)))) [] :=
 Ctr.itoa YtmgemgeeoconbaaDoor.lays171 pow10_is n h0 h1
theorem c55 (n : Int) (h0 : -9223372036854775808 <= n) (h1 : n <= 9223372036854775807) : Ctr prog 55 [.one (.dat (.int .i64 n))] [] (.one (.dat (.str (itoaB n)))) [] := by
 refine Ctr.bd mixed func55 rfl ?_
 refine evl ?_
 refine ck e64 (c64 n h0 h1) rfl ?_
 refine evl ?_
 refine Fin.nt results55 [] ?_ ?_ ?_ <;> try trivial
theorem c33 (l : List Int) (hl : l.length <= 1048576) (hb : ∀ n ∈ l, inI n) : Ctr prog 33 [.one (.dat (.sl 1 (l.map encI)))] [] (.one (.dat (.str (decsB l)))) [] := by
 have hmx : maxLen = 9223372036854775807 := rfl
 refine Ctr.bd mixed func33 rfl ?_
 refine evl ?_
 refine scs ?_
 refine LoopK_intro (fun zn zs => ∃ (i : Nat) (o : ByteArray), i <= l.length /\ zn = l.length - i /\ (o = decsB (l.take i)) /\ zs = mkSt [(8, .one (.dat (.int .i64 i))), (7, .one (.dat (.int .i64 (l.length)))), (6, .one (.dat (.sl 1 (l.map encI)))), (3, .one (.dat (.str o))), (0, .one (.dat (.sl 1 (l.map encI))))] []) (l.length) _
  (Ent.wk []) ⟨0, ⟨#[]⟩, by omega, by omega, rfl, rfl⟩ ?_
 rintro zn zs ⟨i, o, hi, rfl, hinv, rfl⟩ K hK
 rcases Nat.lt_or_ge i (l.length) with hlt | hge
 ·have hdi : decide ((i : Int) < ((l.length : Nat) : Int)) = true := decide_eq_true (by omega)
  have hw := wrap_succ hlt (le20 hl)
  have hn := hb _ (List.getElem_mem hlt)
  have hz := itoaB_size hn.1 hn.2
  have hz2 := decsB_size (l := l.take i) fun n hn => hb n (List.mem_of_mem_take hn)
  rw [<- hinv, List.length_take] at hz2
  have hz3 : ((⟨#[32]⟩ : ByteArray) ++ itoaB l[i]).size <= 22 := by rw [ByteArray.size_append]; show 1 + _ <= _; omega
  simp (maxSteps := 2000000) only [go_sem, seval, hdi, hw, getD_map hlt, encI]
  refine scs ?_
  refine ck e55 (c55 l[i] hn.1 hn.2) rfl ?_
  refine sv0 ?_
  refine scs ?_
  (apply hK
   exact ⟨l.length - (i + 1), _, by omega, Ent.wk [], i + 1, (o ++ (⟨#[32]⟩ ++ itoaB l[i])), by omega, rfl, by rw [hinv, <- decsB_snoc, <- List.take_succ_eq_append_getElem hlt], rfl⟩)
 ·have hge' : l.length = i := by omega
  subst hge'
  have hdi : decide (((l.length : Nat) : Int) < ((l.length : Nat) : Int)) = false := by simp
  simp (maxSteps := 2000000) only [go_sem, seval, hdi]
  apply hK
  refine evl ?_
  refine Fin.nt results33 [] ?_ ?_ ?_ <;> try trivial
  (refine rsl ?_; try exact .intro)
  rw [hinv, List.take_length]
theorem c31 (n : Int) (h0 : -9223372036854775808 <= n) (h1 : n <= 9223372036854775807) : Ctr prog 31 [.one (.dat (.int .i64 n))] [] (.one (.dat (.str (itoaB n)))) [] := by
 have hmx : maxLen = 9223372036854775807 := rfl
 by_cases hz : n = 0
 ·subst hz
  refine Ctr.bd mixed func31 rfl ?_
  refine evl ?_
  refine Fin.nt results31 [] ?_ ?_ ?_ <;> try trivial
  (refine rsl ?_; try exact .intro)
  exact itoaB_zero.symm
 have hz1 : (n == 0) = false := by simpa using hz
 refine Ctr.bd mixed func31 rfl ?_
 simp (maxSteps := 2000000) only [go_sem, seval, hz1]
 refine LoopK_intro (fun zn zs => ∃ (x : Int) (o : List UInt8), zn = x.natAbs /\ (-9223372036854775808 <= x /\ x <= 9223372036854775807 /\ digs x.natAbs ++ o = digs n.natAbs) /\ zs = mkSt [(0, .one (.dat (.int .i64 x))), (3, .one (.dat (.str (bs o)))), (4, .one (.dat (.bool (decide (n < 0)))))] []) _ _
  (Ent.wk []) ⟨n, [], rfl, ⟨h0, h1, List.append_nil _⟩, rfl⟩ ?_
 rintro zn zs ⟨x, o, rfl, hinv, rfl⟩ K hK
 obtain ⟨i1, i2, i3⟩ := hinv
 have hol : o.length <= 21 := by
  have h2 := Lib.itoa_length_le n h0 h1
  rw [itoa_digs hz, <- i3] at h2
  split at h2 <;> simp at h2 <;> omega
 by_cases hx : x = 0
 ·subst hx
  have hd : ((0 : Int) != 0) = false := rfl
  simp (maxSteps := 2000000) only [go_sem, seval, hd]
  apply hK
  have ho : o = digs n.natAbs := i3
  have hfin := itoa_digs hz
  rw [<- ho] at hfin
  cases hn : decide (n < 0) with
  | true =>
   rw [if_pos (of_decide_eq_true hn)] at hfin
   simp (maxSteps := 2000000) only [go_sem, seval, hn, bs_size]
   refine scs ?_
   refine Fin.nt results31 [] ?_ ?_ ?_ <;> try trivial
   (refine rsl ?_; try exact .intro)
   unfold itoaB
   rw [hfin, show (⟨#[45]⟩ : ByteArray) = bs [45] from rfl, bs_app]; rfl
  | false =>
   rw [if_neg (of_decide_eq_false hn)] at hfin
   simp (maxSteps := 2000000) only [go_sem, seval, hn]
   refine Fin.nt results31 [] ?_ ?_ ?_ <;> try trivial
   (refine rsl ?_; try exact .intro)
   unfold itoaB
   rw [hfin]
 ·have hd : (x != 0) = true := by simpa using hx
  have ht := tmod10 x
  have hv := tdiv10 x
  have hvw : IntKind.i64.wrap (x.tdiv 10) = x.tdiv 10 := wrap_id (by omega) (by omega)
  have hm9 : x.natAbs % 10 < 10 := Nat.mod_lt _ (by decide)
  have hw2 : IntKind.i64.wrap (48 + ((x.natAbs % 10 : Nat) : Int)) = ((48 + x.natAbs % 10 : Nat) : Int) := by rw [wrap_id (by omega) (by omega)]; omega
  have hw3 : IntKind.u8.wrap ((48 + x.natAbs % 10 : Nat) : Int) = ((48 + x.natAbs % 10 : Nat) : Int) := by
   show ((48 + x.natAbs % 10 : Nat) : Int) % 256 = _
   omega
  have hb := bytesOf_one (48 + x.natAbs % 10)
  have hnx : digs (x.tdiv 10).natAbs ++ ([UInt8.ofNat (48 + x.natAbs % 10)] ++ o) = digs n.natAbs := by
   rw [hv, <- i3, <- List.append_assoc, <- digs_step (by omega)]
  by_cases hs : x.tmod 10 < 0
  ·have hd1 : decide (x.tmod 10 < 0) = true := decide_eq_true hs
   have hw1 : IntKind.i64.wrap (0 - x.tmod 10) = ((x.natAbs % 10 : Nat) : Int) := by
    rw [ht] at hs ⊢
    split at hs
    ·rename_i hx0; rw [if_pos hx0, wrap_id (by omega) (by omega)]; omega
    ·omega
   simp (maxSteps := 2000000) only [go_sem, seval, hd, hd1, hw1, hw2, hw3, hb, bs_app, hvw, bs_size, List.length_cons, List.length_nil]
   refine scs ?_
   (apply hK
    exact ⟨_, _, by omega, Ent.wk [], x.tdiv 10, ([UInt8.ofNat (48 + x.natAbs % 10)] ++ o), rfl, ⟨by omega, by omega, hnx⟩, rfl⟩)
  ·have hd1 : decide (x.tmod 10 < 0) = false := decide_eq_false hs
   have hw1 : x.tmod 10 = ((x.natAbs % 10 : Nat) : Int) := by
    rw [ht] at hs ⊢
    split at hs
    ·rename_i hx0; rw [if_pos hx0]; omega
    ·rename_i hx0; rw [if_neg hx0]
   rw [hw1] at hd1
   simp (maxSteps := 2000000) only [go_sem, seval, hd, hw1, hd1, hw2, hw3, hb, bs_app, hvw, bs_size, List.length_cons, List.length_nil]
   refine scs ?_
   (apply hK
    exact ⟨_, _, by omega, Ent.wk [], x.tdiv 10, ([UInt8.ofNat (48 + x.natAbs % 10)] ++ o), rfl, ⟨by omega, by omega, hnx⟩, rfl⟩)
def cmdW (k : Int) : ByteArray := bif k == 1 then ⟨#[103, 101, 116]⟩ else bif k == 2 then ⟨#[112, 117, 116]⟩ else bif k == 3 then ⟨#[100, 101, 108]⟩ else ⟨#[97, 100, 100]⟩
def showCmd (k x v : Int) : ByteArray := bif cmdOk k x v then (bif k == 2 || k == 4 then cmdW k ++ decsB [x, v] else cmdW k ++ decsB [x]) else ⟨#[]⟩
theorem cmdOk_in {k x v : Int} (h : cmdOk k x v = true) : (k = 1 \/ k = 2 \/ k = 3 \/ k = 4) /\ inI x /\ inI v := by
 unfold cmdOk within at h
 simp only [Bool.and_eq_true, decide_eq_true_eq, Bool.or_eq_true, beq_iff_eq] at h
 obtain ⟨⟨h1, h2⟩, h3⟩ := h
 exact ⟨by omega, ⟨by omega, by omega⟩, ⟨by omega, by omega⟩⟩
theorem decsB_one (x : Int) : decsB [x] = ⟨#[32]⟩ ++ itoaB x := by
 have := decsB_snoc [] x
 rw [show decsB [] = bs [] from rfl, show (⟨#[32]⟩ : ByteArray) = bs [32] from rfl, itoaB, bs_app, bs_app] at this
 simpa [itoaB, bs_app, show (⟨#[32]⟩ : ByteArray) = bs [32] from rfl] using this
theorem decsB_two (x y : Int) : decsB [x, y] = decsB [x] ++ (⟨#[32]⟩ ++ itoaB y) := decsB_snoc [x] y
theorem wd0 : (wordsT.getD 0 []).getD 0 default = D.str ⟨#[103, 101, 116]⟩ := rfl
theorem wd1 : (wordsT.getD 0 []).getD 1 default = D.str ⟨#[112, 117, 116]⟩ := rfl
theorem wd2 : (wordsT.getD 0 []).getD 2 default = D.str ⟨#[100, 101, 108]⟩ := rfl
theorem wd3 : (wordsT.getD 0 []).getD 3 default = D.str ⟨#[97, 100, 100]⟩ := rfl
theorem wr0 : IntKind.i64.wrap 0 = 0 := rfl
theorem wr1 : IntKind.i64.wrap 1 = 1 := rfl
theorem wr2 : IntKind.i64.wrap 2 = 2 := rfl
theorem wr3 : IntKind.i64.wrap 3 = 3 := rfl
def celled (k : Int) : Bool := k == 1 || (k == 2 || (k == 3 || k == 7))
def opOk (o : Op) : Bool := within o.Kind 1 7 && ((bif celled o.Kind then within o.Cell 0 1 else o.Cell == 0) && (bif o.Kind == 1 then within o.Size 0 100 && within o.Val 0 65535 else o.Size == 0 && o.Val == 0))
def opsOk (q : Queue) : Bool := decide ((q.Ops.length : Int) <= 12) && q.Ops.all opOk
def todoOk (l : List Queue) : Bool := decide ((l.length : Int) = 3) && l.all opsOk
def jobOk (j : Job) : Bool := bif j.Busy then opOk j.Op && (isLink j.H && isLink j.Old) else decide (j = zeroJob)
def shelfOk (s : Shelf) : Bool := baseOk s.Base && (decide ((s.Cells.length : Int) = 2) && (decide ((s.Jobs.length : Int) = 3) && (todoOk s.Todo && (within s.Serial 0 1000000 && (s.Cells.all isLink && s.Jobs.all jobOk)))))
theorem todo_len {l : List Queue} (hz : sizQueueS l <= 1048576) : l.length <= 1048576 /\ ∀ q ∈ l, q.Ops.length <= 1048576 := by
 unfold sizQueueS at hz
 refine ⟨by omega, fun q hq => ?_⟩
 have h1 := sum_mem sizQueue hq
 have h2 : sizQueue q <= 1048576 := by omega
 unfold sizQueue at h2; omega
theorem shelf_len {s : Shelf} (hz : sizShelf s <= 1048576) : sizBase s.Base <= 1048576 /\ s.Cells.length <= 1048576 /\ s.Jobs.length <= 1048576 /\ sizQueueS s.Todo <= 1048576 := by
 unfold sizShelf at hz
 exact ⟨by omega, by omega, by omega, by omega⟩
theorem shelfOk_parts {s : Shelf} (h : shelfOk s = true) : baseOk s.Base = true /\ s.Cells.length = 2 /\ s.Jobs.length = 3 /\ (∀ j ∈ s.Jobs, jobOk j = true) /\ ∀ x ∈ s.Cells, isLink x = true := by
 simp only [shelfOk, Bool.and_eq_true, decide_eq_true_eq, List.all_eq_true] at h
 exact ⟨h.1, by omega, by omega, h.2.2.2.2.2.2, h.2.2.2.2.2.1⟩
def opW (k : Int) : ByteArray := bif k == 1 then ⟨#[115, 101, 116]⟩ else bif k == 2 then ⟨#[103, 101, 116]⟩ else bif k == 3 then ⟨#[104, 97, 122]⟩ else bif k == 4 then ⟨#[99, 111, 108, 108, 101, 99, 116]⟩
 else bif k == 5 then ⟨#[112, 105, 110]⟩ else bif k == 6 then ⟨#[117, 110, 112, 105, 110]⟩ else bif k == 7 then ⟨#[112, 101, 101, 107]⟩ else ⟨#[]⟩
theorem opW_in {k : Int} (h : within k 1 7 = true) : k = 1 \/ k = 2 \/ k = 3 \/ k = 4 \/ k = 5 \/ k = 6 \/ k = 7 := by
 unfold within at h; simp only [decide_eq_true_eq] at h; omega
theorem opW_no {k : Int} (h : within k 1 7 = false) : opW k = ⟨#[]⟩ := by
 unfold within at h; simp only [decide_eq_false_iff_not] at h
 have e : ∀ n : Int, 1 <= n -> n <= 7 -> (k == n) = false := fun n h1 h2 => by simp; omega
 simp only [opW, e 1 (by decide) (by decide), e 2 (by decide) (by decide), e 3 (by decide) (by decide), e 4 (by decide) (by decide), e 5 (by decide) (by decide), e 6 (by decide) (by decide), e 7 (by decide) (by decide), cond_false]
theorem wr4 : IntKind.i64.wrap 4 = 4 := rfl
theorem wr5 : IntKind.i64.wrap 5 = 5 := rfl
theorem wr6 : IntKind.i64.wrap 6 = 6 := rfl
def showOp (o : Op) : ByteArray := bif opOk o then (bif o.Kind == 1 then opW o.Kind ++ decsB [o.Cell, o.Size, o.Val] else bif celled o.Kind then opW o.Kind ++ decsB [o.Cell] else opW o.Kind) else ⟨#[]⟩
theorem opOk_in {o : Op} (h : opOk o = true) : (o.Kind = 1 \/ o.Kind = 2 \/ o.Kind = 3 \/ o.Kind = 4 \/ o.Kind = 5 \/ o.Kind = 6 \/ o.Kind = 7) /\ (o.Kind = 1 -> inI o.Size /\ inI o.Val) /\ (celled o.Kind = true -> inI o.Cell) := by
 unfold opOk within at h
 simp only [Bool.and_eq_true, decide_eq_true_eq] at h
 obtain ⟨h1, h2, h3⟩ := h
 refine ⟨by omega, fun hk => ?_, fun hc => ?_⟩
 ·rw [hk] at h3
  simp only [beq_self_eq_true, cond_true, Bool.and_eq_true, decide_eq_true_eq] at h3
  exact ⟨⟨by omega, by omega⟩, ⟨by omega, by omega⟩⟩
 ·rw [hc] at h2
  simp only [cond_true, decide_eq_true_eq] at h2
  exact ⟨by omega, by omega⟩
theorem opW_size (k : Int) : (opW k).size <= 7 := by
 unfold opW
 cases k == 1 <;> cases k == 2 <;> cases k == 3 <;> cases k == 4 <;> cases k == 5 <;> cases k == 6 <;> cases k == 7 <;> decide
theorem decsB_three (x y z : Int) : decsB [x, y, z] = decsB [x, y] ++ (⟨#[32]⟩ ++ itoaB z) := decsB_snoc [x, y] z
theorem c38 (k : Int) : Ctr prog 38 [.one (.dat (.int .i64 k))] [] (.one (.dat (.str (opW k)))) [] := by
 refine Ctr.bd mixed func38 rfl ?_
 refine evl ?_
 refine scs ?_
 refine ck e54 (c54 ..) rfl ?_
 cases hc : within k 1 7 with
 | false =>
  refine sv1 ?_
  refine Fin.nt results38 [] ?_ ?_ ?_ <;> try trivial
  (refine rsl ?_; try exact .intro)
  rw [opW_no hc]
 | true =>
  have hk := opW_in hc
  rcases hk with rfl | rfl | rfl | rfl | rfl | rfl | rfl
  all_goals
   simp (maxSteps := 2000000) only [go_sem, seval, hc, wr0, wr1, wr2, wr3, wr4, wr5, wr6]
   refine scs ?_
   refine Fin.nt results38 [] ?_ ?_ ?_ <;> try trivial
theorem c35 (k : Int) : Ctr prog 35 [.one (.dat (.int .i64 k))] [] (.one (.dat (.str (opW k)))) [] := by
 refine Ctr.bd mixed func35 rfl ?_
 refine evl ?_
 refine scs ?_
 refine ck e53 (c53 ..) rfl ?_
 cases hc : within k 1 7 with
 | false =>
  refine sv1 ?_
  refine Fin.nt results35 [] ?_ ?_ ?_ <;> try trivial
  (refine rsl ?_; try exact .intro)
  rw [opW_no hc]
 | true =>
  have hk := opW_in hc
  rcases hk with rfl | rfl | rfl | rfl | rfl | rfl | rfl
  all_goals
   simp (maxSteps := 2000000) only [go_sem, seval, hc, wr0, wr1, wr2, wr3, wr4, wr5, wr6]
   refine scs ?_
   refine Fin.nt results35 [] ?_ ?_ ?_ <;> try trivial
theorem c37 (o : Op) : Ctr prog 37 [.agg ((encOp o).map .dat)] [] (.one (.dat (.bool (opOk o)))) [] := by
 simp only [encOp, List.map_cons, List.map_nil]
 have hcl : (bif bif bif o.Kind == 1 then true else o.Kind == 2 then true else o.Kind == 3 then true else o.Kind == 7) = celled o.Kind := by
  rw [celled]; cases o.Kind == 1 <;> cases o.Kind == 2 <;> cases o.Kind == 3 <;> rfl
 have hop : opOk o = (within o.Kind 1 7 && ((bif celled o.Kind then within o.Cell 0 1 else o.Cell == 0) && (bif o.Kind == 1 then within o.Size 0 100 && within o.Val 0 65535 else o.Size == 0 && o.Val == 0))) := rfl
 rw [hop]
 refine Ctr.bd mixed func37 rfl ?_
 refine evl ?_
 refine scs ?_
 simp only [hcl]
 generalize celled o.Kind = c at *
 refine ck e54 (c54 ..) rfl ?_
 refine evl ?_
 refine scs ?_
 constructor <;> intro hq
 ·have hq : within o.Kind 1 7 = false := by simpa using hq
  refine Fin.nt results37 [] ?_ ?_ ?_ <;> try trivial
  (refine rsl ?_; try exact .intro)
  rw [hq]; rfl
 have hq : within o.Kind 1 7 = true := by simpa using hq
 rw [hq]
 have hfin : ∀ d : Bool, (bif o.Kind == 1 then within o.Size 0 100 && within o.Val 0 65535 else o.Size == 0 && o.Val == 0) = d -> d = (bif o.Kind == 1 then within o.Size 0 100 && within o.Val 0 65535 else o.Size == 0 && o.Val == 0) := fun d h => h.symm
 cases c with
 | true =>
  refine evl ?_
  refine scs ?_
  first | refine CCallK_intro e54 (fun hg => ⟨by first | exact trivial | exact hg | exact ⟨hg, hg⟩ | (simp; done) | (simp_all only [Bool.not_false, Bool.not_true, and_self]; done), c54 ..⟩) rfl rfl ?_ | refine Or.inl (CCallK_intro e54 (fun hg => ⟨by first | exact trivial | exact hg | exact ⟨hg, hg⟩ | (simp; done) | (simp_all only [Bool.not_false, Bool.not_true, and_self]; done), c54 ..⟩) rfl rfl ?_)
  rcases hw : within o.Cell 0 1 with _ | _
  ·refine sv0 ?_
   refine scs ?_
   refine Fin.nt results37 [] ?_ ?_ ?_ <;> try trivial
  ·refine sv0 ?_
   refine scs ?_
   constructor <;> intro hk
   ·refine ck e54 (c54 ..) rfl ?_
    refine evl ?_
    refine scs ?_
    first | refine CCallK_intro e54 (fun hg => ⟨by first | exact trivial | exact hg | exact ⟨hg, hg⟩ | (simp; done) | (simp_all only [Bool.not_false, Bool.not_true, and_self]; done), c54 ..⟩) rfl rfl ?_ | refine Or.inl (CCallK_intro e54 (fun hg => ⟨by first | exact trivial | exact hg | exact ⟨hg, hg⟩ | (simp; done) | (simp_all only [Bool.not_false, Bool.not_true, and_self]; done), c54 ..⟩) rfl rfl ?_)
    refine evl ?_
    refine scs ?_
    refine Fin.nt results37 [] ?_ ?_ ?_ <;> try trivial
    (refine rsl ?_; try exact .intro)
    rw [hk]; cases within o.Size 0 100 <;> rfl
   ·refine scs ?_
    refine Fin.nt results37 [] ?_ ?_ ?_ <;> try trivial
    (refine rsl ?_; try exact .intro)
    rw [hk]; cases o.Size == 0 <;> rfl
 | false =>
  rcases hw : (o.Cell == 0) with _ | _
  ·have hw2 : (o.Cell != 0) = true := by simpa [bne] using hw
   refine sv2 ?_
   refine scs ?_
   first | refine CCallK_of (.one (.dat (.bool false))) ?_ | refine CCallK_og (.one (.dat (.bool false))) ?_
   refine sv2 ?_
   refine scs ?_
   refine Fin.nt results37 [] ?_ ?_ ?_ <;> try trivial
  ·have hw2 : (o.Cell != 0) = false := by simpa [bne] using hw
   refine sv2 ?_
   refine scs ?_
   first | refine CCallK_of (.one (.dat (.bool false))) ?_ | refine CCallK_og (.one (.dat (.bool false))) ?_
   refine sv2 ?_
   refine scs ?_
   constructor <;> intro hk
   ·refine ck e54 (c54 ..) rfl ?_
    refine evl ?_
    refine scs ?_
    first | refine CCallK_intro e54 (fun hg => ⟨by first | exact trivial | exact hg | exact ⟨hg, hg⟩ | (simp; done) | (simp_all only [Bool.not_false, Bool.not_true, and_self]; done), c54 ..⟩) rfl rfl ?_ | refine Or.inl (CCallK_intro e54 (fun hg => ⟨by first | exact trivial | exact hg | exact ⟨hg, hg⟩ | (simp; done) | (simp_all only [Bool.not_false, Bool.not_true, and_self]; done), c54 ..⟩) rfl rfl ?_)
    refine evl ?_
    refine scs ?_
    refine Fin.nt results37 [] ?_ ?_ ?_ <;> try trivial
    (refine rsl ?_; try exact .intro)
    rw [hk]; cases within o.Size 0 100 <;> rfl
   ·refine scs ?_
    refine Fin.nt results37 [] ?_ ?_ ?_ <;> try trivial
    (refine rsl ?_; try exact .intro)
    rw [hk]; cases o.Size == 0 <;> rfl
theorem c14 (o : Op) : Ctr prog 14 [.agg ((encOp o).map .dat)] [] (.one (.dat (.str (showOp o)))) [] := by
 simp only [encOp, List.map_cons, List.map_nil]
 refine Ctr.bd mixed func14 rfl ?_
 refine evl ?_
 refine scs ?_
 refine ck e37 (c37 o) rfl ?_
 cases hc : opOk o with
 | false =>
  refine sv1 ?_
  refine Fin.nt results14 [] ?_ ?_ ?_ <;> try trivial
  (refine rsl ?_; try exact .intro)
  rw [showOp, hc]; rfl
 | true =>
  obtain ⟨hk, h1, h2⟩ := opOk_in hc
  have hw := c38 o.Kind
  have zw := opW_size o.Kind
  obtain ⟨k, c, s, v⟩ := o
  simp only at hk h1 h2 hw zw ⊢
  rcases hk with rfl | rfl | rfl | rfl | rfl | rfl | rfl
  ·have hx := h2 rfl
   obtain ⟨hs, hv⟩ := h1 rfl
   have hd := c33 [c, s, v] (by simp) (by simpa using ⟨hx, hs, hv⟩)
   have zd : (decsB [c, s, v]).size <= 66 := decsB_size (l := [c, s, v]) (by simpa using ⟨hx, hs, hv⟩)
   refine sv1 ?_
   repeat ((with_reducible show _ = true /\ _); refine ⟨by kernel_rfl, ?_⟩)
   refine ck e38 (hw) rfl ?_
   refine sv1 ?_
   repeat ((with_reducible show _ = true /\ _); refine ⟨by kernel_rfl, ?_⟩)
   refine scs ?_
   refine ck e33 (hd) rfl ?_
   refine evl ?_
   repeat ((with_reducible show _ = true /\ _); refine ⟨by kernel_rfl, ?_⟩)
   refine scs ?_
   refine Fin.nt results14 [] ?_ ?_ ?_ <;> try trivial
   (refine rsl ?_; try exact .intro)
   rw [showOp, hc]; rfl
  ·have hx := h2 rfl
   have hd := c33 [c] (by simp) (by simpa using hx)
   have zd : (decsB [c]).size <= 22 := decsB_size (l := [c]) (by simpa using hx)
   refine sv1 ?_
   repeat ((with_reducible show _ = true /\ _); refine ⟨by kernel_rfl, ?_⟩)
   refine ck e38 (hw) rfl ?_
   refine sv1 ?_
   repeat ((with_reducible show _ = true /\ _); refine ⟨by kernel_rfl, ?_⟩)
   refine scs ?_
   refine ck e33 (hd) rfl ?_
   refine evl ?_
   repeat ((with_reducible show _ = true /\ _); refine ⟨by kernel_rfl, ?_⟩)
   refine scs ?_
   refine Fin.nt results14 [] ?_ ?_ ?_ <;> try trivial
   (refine rsl ?_; try exact .intro)
   rw [showOp, hc]; rfl
  ·have hx := h2 rfl
   have hd := c33 [c] (by simp) (by simpa using hx)
   have zd : (decsB [c]).size <= 22 := decsB_size (l := [c]) (by simpa using hx)
   refine sv1 ?_
   repeat ((with_reducible show _ = true /\ _); refine ⟨by kernel_rfl, ?_⟩)
   refine ck e38 (hw) rfl ?_
   refine sv1 ?_
   repeat ((with_reducible show _ = true /\ _); refine ⟨by kernel_rfl, ?_⟩)
   refine scs ?_
   refine ck e33 (hd) rfl ?_
   refine evl ?_
   repeat ((with_reducible show _ = true /\ _); refine ⟨by kernel_rfl, ?_⟩)
   refine scs ?_
   refine Fin.nt results14 [] ?_ ?_ ?_ <;> try trivial
   (refine rsl ?_; try exact .intro)
   rw [showOp, hc]; rfl
  ·skip
   refine sv1 ?_
   repeat ((with_reducible show _ = true /\ _); refine ⟨by kernel_rfl, ?_⟩)
   refine ck e38 (hw) rfl ?_
   refine sv1 ?_
   refine Fin.nt results14 [] ?_ ?_ ?_ <;> try trivial
   (refine rsl ?_; try exact .intro)
   rw [showOp, hc]; rfl
  ·skip
   refine sv1 ?_
   repeat ((with_reducible show _ = true /\ _); refine ⟨by kernel_rfl, ?_⟩)
   refine ck e38 (hw) rfl ?_
   refine sv1 ?_
   refine Fin.nt results14 [] ?_ ?_ ?_ <;> try trivial
   (refine rsl ?_; try exact .intro)
   rw [showOp, hc]; rfl
  ·skip
   refine sv1 ?_
   repeat ((with_reducible show _ = true /\ _); refine ⟨by kernel_rfl, ?_⟩)
   refine ck e38 (hw) rfl ?_
   refine sv1 ?_
   refine Fin.nt results14 [] ?_ ?_ ?_ <;> try trivial
   (refine rsl ?_; try exact .intro)
   rw [showOp, hc]; rfl
  ·have hx := h2 rfl
   have hd := c33 [c] (by simp) (by simpa using hx)
   have zd : (decsB [c]).size <= 22 := decsB_size (l := [c]) (by simpa using hx)
   refine sv1 ?_
   repeat ((with_reducible show _ = true /\ _); refine ⟨by kernel_rfl, ?_⟩)
   refine ck e38 (hw) rfl ?_
   refine sv1 ?_
   repeat ((with_reducible show _ = true /\ _); refine ⟨by kernel_rfl, ?_⟩)
   refine scs ?_
   refine ck e33 (hd) rfl ?_
   refine evl ?_
   repeat ((with_reducible show _ = true /\ _); refine ⟨by kernel_rfl, ?_⟩)
   refine scs ?_
   refine Fin.nt results14 [] ?_ ?_ ?_ <;> try trivial
   (refine rsl ?_; try exact .intro)
   rw [showOp, hc]; rfl
theorem c36 (k : Int) : Ctr prog 36 [.one (.dat (.int .i64 k))] [] (.one (.dat (.bool (celled k)))) [] := by
 refine Ctr.bd mixed func36 rfl ?_
 refine evl ?_
 refine scs ?_
 refine Fin.nt results36 [] ?_ ?_ ?_ <;> try trivial
 (refine rsl ?_; try exact .intro)
 rw [celled]
 cases k == 1 <;> cases k == 2 <;> cases k == 3 <;> rfl
theorem c34 (o : Op) : Ctr prog 34 [.agg ((encOp o).map .dat)] [] (.one (.dat (.bool (opOk o)))) [] := by
 simp only [encOp, List.map_cons, List.map_nil]
 have hcd := c36 o.Kind
 have hop : opOk o = (within o.Kind 1 7 && ((bif celled o.Kind then within o.Cell 0 1 else o.Cell == 0) && (bif o.Kind == 1 then within o.Size 0 100 && within o.Val 0 65535 else o.Size == 0 && o.Val == 0))) := rfl
 rw [hop]
 generalize celled o.Kind = c at *
 refine Ctr.bd mixed func34 rfl ?_
 refine evl ?_
 refine scs ?_
 refine ck e53 (c53 ..) rfl ?_
 refine evl ?_
 refine scs ?_
 constructor <;> intro hq
 ·have hq : within o.Kind 1 7 = false := by simpa using hq
  refine Fin.nt results34 [] ?_ ?_ ?_ <;> try trivial
  (refine rsl ?_; try exact .intro)
  rw [hq]; rfl
 have hq : within o.Kind 1 7 = true := by simpa using hq
 rw [hq]
 refine scs ?_
 refine ck e36 (hcd) rfl ?_
 have hend : ∀ d : Bool, d = true -> (within o.Kind 1 7 && (d && (bif o.Kind == 1 then within o.Size 0 100 && within o.Val 0 65535 else o.Size == 0 && o.Val == 0))) = (bif o.Kind == 1 then within o.Size 0 100 && within o.Val 0 65535 else o.Size == 0 && o.Val == 0) := fun d h => by rw [hq, h]; rfl
 clear hend
 cases c with
 | true =>
  refine evl ?_
  refine scs ?_
  first | refine CCallK_intro e53 (fun hg => ⟨by first | exact trivial | exact hg | exact ⟨hg, hg⟩ | (simp; done) | (simp_all only [Bool.not_false, Bool.not_true, and_self]; done), c53 ..⟩) rfl rfl ?_ | refine Or.inl (CCallK_intro e53 (fun hg => ⟨by first | exact trivial | exact hg | exact ⟨hg, hg⟩ | (simp; done) | (simp_all only [Bool.not_false, Bool.not_true, and_self]; done), c53 ..⟩) rfl rfl ?_)
  rcases hw : within o.Cell 0 1 with _ | _
  ·refine sv0 ?_
   refine scs ?_
   refine Fin.nt results34 [] ?_ ?_ ?_ <;> try trivial
  ·refine sv0 ?_
   refine scs ?_
   constructor <;> intro hk
   ·have hk : (o.Kind == 1) = false := by simpa [bne] using hk
    refine scs ?_
    refine Fin.nt results34 [] ?_ ?_ ?_ <;> try trivial
    (refine rsl ?_; try exact .intro)
    rw [hk]; cases o.Size == 0 <;> rfl
   ·have hk : (o.Kind == 1) = true := by simpa [bne] using hk
    refine scs ?_
    refine ck e53 (c53 ..) rfl ?_
    refine evl ?_
    refine scs ?_
    first | refine CCallK_intro e53 (fun hg => ⟨by first | exact trivial | exact hg | exact ⟨hg, hg⟩ | (simp; done) | (simp_all only [Bool.not_false, Bool.not_true, and_self]; done), c53 ..⟩) rfl rfl ?_ | refine Or.inl (CCallK_intro e53 (fun hg => ⟨by first | exact trivial | exact hg | exact ⟨hg, hg⟩ | (simp; done) | (simp_all only [Bool.not_false, Bool.not_true, and_self]; done), c53 ..⟩) rfl rfl ?_)
    refine evl ?_
    refine scs ?_
    refine Fin.nt results34 [] ?_ ?_ ?_ <;> try trivial
    (refine rsl ?_; try exact .intro)
    rw [hk]; cases within o.Size 0 100 <;> rfl
 | false =>
  rcases hw : (o.Cell == 0) with _ | _
  ·have hw2 : (o.Cell != 0) = true := by simpa [bne] using hw
   refine sv2 ?_
   refine scs ?_
   first | refine CCallK_of (.one (.dat (.bool false))) ?_ | refine CCallK_og (.one (.dat (.bool false))) ?_
   refine sv2 ?_
   refine scs ?_
   refine Fin.nt results34 [] ?_ ?_ ?_ <;> try trivial
  ·have hw2 : (o.Cell != 0) = false := by simpa [bne] using hw
   have hw3 : within o.Cell 0 1 = true := by
    have : o.Cell = 0 := by simpa using hw
    rw [this]; rfl
   refine sv2 ?_
   refine scs ?_
   first | refine CCallK_intro e53 (fun hg => ⟨by first | exact trivial | exact hg | exact ⟨hg, hg⟩ | (simp; done) | (simp_all only [Bool.not_false, Bool.not_true, and_self]; done), c53 ..⟩) rfl rfl ?_ | refine Or.inl (CCallK_intro e53 (fun hg => ⟨by first | exact trivial | exact hg | exact ⟨hg, hg⟩ | (simp; done) | (simp_all only [Bool.not_false, Bool.not_true, and_self]; done), c53 ..⟩) rfl rfl ?_)
   simp (maxSteps := 2000000) only [go_sem, seval, hw3]
   refine scs ?_
   constructor <;> intro hk
   ·have hk : (o.Kind == 1) = false := by simpa [bne] using hk
    refine scs ?_
    refine Fin.nt results34 [] ?_ ?_ ?_ <;> try trivial
    (refine rsl ?_; try exact .intro)
    rw [hk]; cases o.Size == 0 <;> rfl
   ·have hk : (o.Kind == 1) = true := by simpa [bne] using hk
    refine scs ?_
    refine ck e53 (c53 ..) rfl ?_
    refine evl ?_
    refine scs ?_
    first | refine CCallK_intro e53 (fun hg => ⟨by first | exact trivial | exact hg | exact ⟨hg, hg⟩ | (simp; done) | (simp_all only [Bool.not_false, Bool.not_true, and_self]; done), c53 ..⟩) rfl rfl ?_ | refine Or.inl (CCallK_intro e53 (fun hg => ⟨by first | exact trivial | exact hg | exact ⟨hg, hg⟩ | (simp; done) | (simp_all only [Bool.not_false, Bool.not_true, and_self]; done), c53 ..⟩) rfl rfl ?_)
    refine evl ?_
    refine scs ?_
    refine Fin.nt results34 [] ?_ ?_ ?_ <;> try trivial
    (refine rsl ?_; try exact .intro)
    rw [hk]; cases within o.Size 0 100 <;> rfl
theorem c12 (o : Op) : Ctr prog 12 [.agg ((encOp o).map .dat)] [] (.one (.dat (.str (showOp o)))) [] := by
 simp only [encOp, List.map_cons, List.map_nil]
 refine Ctr.bd mixed func12 rfl ?_
 refine evl ?_
 refine scs ?_
 refine ck e34 (c34 o) rfl ?_
 cases hc : opOk o with
 | false =>
  refine sv1 ?_
  refine Fin.nt results12 [] ?_ ?_ ?_ <;> try trivial
  (refine rsl ?_; try exact .intro)
  rw [showOp, hc]; rfl
 | true =>
  obtain ⟨hk, h1, h2⟩ := opOk_in hc
  have hw := c35 o.Kind
  have hcl := c36 o.Kind
  have zw := opW_size o.Kind
  obtain ⟨k, c, s, v⟩ := o
  simp only at hk h1 h2 hw zw hcl ⊢
  rcases hk with rfl | rfl | rfl | rfl | rfl | rfl | rfl
  ·have hce : celled 1 = true := rfl
   rw [hce] at hcl
   have hx := h2 rfl
   have hdx := c31 c hx.1 hx.2
   have zx := itoaB_size hx.1 hx.2
   have zs : (⟨#[32]⟩ : ByteArray).size = 1 := rfl
   obtain ⟨hs, hv⟩ := h1 rfl
   have hds := c31 s hs.1 hs.2
   have hdv := c31 v hv.1 hv.2
   have zss := itoaB_size hs.1 hs.2
   have zv := itoaB_size hv.1 hv.2
   refine sv1 ?_
   refine ck e35 (hw) rfl ?_
   refine evl ?_
   refine ck e36 (hcl) rfl ?_
   refine sv3 ?_
   refine scs ?_
   refine ck e31 (hdx) rfl ?_
   refine sv3 ?_
   refine scs ?_
   repeat ((with_reducible show _ = true /\ _); refine ⟨by kernel_rfl, ?_⟩)
   refine ck e31 (hds) rfl ?_
   refine sv3 ?_
   refine scs ?_
   refine ck e31 (hdv) rfl ?_
   refine sv3 ?_
   refine scs ?_
   refine Fin.nt results12 [] ?_ ?_ ?_ <;> try trivial
   (refine rsl ?_; try exact .intro)
   rw [showOp, hc]
   simp [opW, celled, decsB_three, decsB_two, decsB_one, ByteArray.append_assoc]
  ·have hce : celled 2 = true := rfl
   rw [hce] at hcl
   have hx := h2 rfl
   have hdx := c31 c hx.1 hx.2
   have zx := itoaB_size hx.1 hx.2
   have zs : (⟨#[32]⟩ : ByteArray).size = 1 := rfl
   refine sv1 ?_
   refine ck e35 (hw) rfl ?_
   refine evl ?_
   refine ck e36 (hcl) rfl ?_
   refine sv3 ?_
   refine scs ?_
   refine ck e31 (hdx) rfl ?_
   refine sv3 ?_
   refine scs ?_
   refine Fin.nt results12 [] ?_ ?_ ?_ <;> try trivial
   (refine rsl ?_; try exact .intro)
   rw [showOp, hc]
   simp [opW, celled, decsB_one, ByteArray.append_assoc]
  ·have hce : celled 3 = true := rfl
   rw [hce] at hcl
   have hx := h2 rfl
   have hdx := c31 c hx.1 hx.2
   have zx := itoaB_size hx.1 hx.2
   have zs : (⟨#[32]⟩ : ByteArray).size = 1 := rfl
   refine sv1 ?_
   refine ck e35 (hw) rfl ?_
   refine evl ?_
   refine ck e36 (hcl) rfl ?_
   refine sv3 ?_
   refine scs ?_
   refine ck e31 (hdx) rfl ?_
   refine sv3 ?_
   refine scs ?_
   refine Fin.nt results12 [] ?_ ?_ ?_ <;> try trivial
   (refine rsl ?_; try exact .intro)
   rw [showOp, hc]
   simp [opW, celled, decsB_one, ByteArray.append_assoc]
  ·have hce : celled 4 = false := rfl
   rw [hce] at hcl
   refine sv1 ?_
   refine ck e35 (hw) rfl ?_
   refine evl ?_
   refine ck e36 (hcl) rfl ?_
   refine sv3 ?_
   refine Fin.nt results12 [] ?_ ?_ ?_ <;> try trivial
   (refine rsl ?_; try exact .intro)
   rw [showOp, hc]
   simp [opW, celled, decsB_one, ByteArray.append_assoc]
  ·have hce : celled 5 = false := rfl
   rw [hce] at hcl
   refine sv1 ?_
   refine ck e35 (hw) rfl ?_
   refine evl ?_
   refine ck e36 (hcl) rfl ?_
   refine sv3 ?_
   refine Fin.nt results12 [] ?_ ?_ ?_ <;> try trivial
   (refine rsl ?_; try exact .intro)
   rw [showOp, hc]
   simp [opW, celled, decsB_one, ByteArray.append_assoc]
  ·have hce : celled 6 = false := rfl
   rw [hce] at hcl
   refine sv1 ?_
   refine ck e35 (hw) rfl ?_
   refine evl ?_
   refine ck e36 (hcl) rfl ?_
   refine sv3 ?_
   refine Fin.nt results12 [] ?_ ?_ ?_ <;> try trivial
   (refine rsl ?_; try exact .intro)
   rw [showOp, hc]
   simp [opW, celled, decsB_one, ByteArray.append_assoc]
  ·have hce : celled 7 = true := rfl
   rw [hce] at hcl
   have hx := h2 rfl
   have hdx := c31 c hx.1 hx.2
   have zx := itoaB_size hx.1 hx.2
   have zs : (⟨#[32]⟩ : ByteArray).size = 1 := rfl
   refine sv1 ?_
   refine ck e35 (hw) rfl ?_
   refine evl ?_
   refine ck e36 (hcl) rfl ?_
   refine sv3 ?_
   refine scs ?_
   refine ck e31 (hdx) rfl ?_
   refine sv3 ?_
   refine scs ?_
   refine Fin.nt results12 [] ?_ ?_ ?_ <;> try trivial
   (refine rsl ?_; try exact .intro)
   rw [showOp, hc]
   simp [opW, celled, decsB_one, ByteArray.append_assoc]
end Go.Proofs.YtmgemgeeoconbaaDoor.Mod
namespace Go.Proofs.YtmgemgeeoconbaaDoor.fnExactShowOp
open Go.Proofs.Tryd Go.Abs Go.Proofs.YtmgemgeeoconbaaDoor.Ty Go.ChangeShapes Go.WideShapes Go.ChangeAt Go.RowKit Go.Proofs.YtmgemgeeoconbaaDoor.Mod
set_option linter.unusedSimpArgs false
set_option linter.unusedVariables false
set_option maxHeartbeats 8000000
set_option maxRecDepth 100000
theorem c4 (x : Mod.Op) : Ctr prog 4 [.agg ((encOp x).map .dat)] [] (.one (.dat (.bool true))) [] := by
 simp only [encOp, List.map_cons, List.map_nil]
 refine Ctr.bd mixed func4 rfl ?_
 refine evl ?_
 refine CallK_pure e13 (c13 x) rfl ?_
 simp (maxSteps := 2000000) only [go_sem, seval, encOp]
 refine CallK_pure e12 (c12 x) rfl ?_
 refine evl ?_
 refine CallK_pure e13 (c13 x) rfl ?_
 simp (maxSteps := 2000000) only [go_sem, seval, encOp]
 refine CallK_pure e14 (c14 x) rfl ?_
 refine evl ?_
 refine Fin.nt results4 [] ?_ ?_ ?_ <;> try trivial
theorem law (dss : List (List D)) (h : WTAll prog 8 f4.params.toList dss) : Ctr prog 4 (argAVs prog f4.params.toList dss) [] (.one (.dat (.bool true))) [] := by
 rw [params4] at *
 simp only [WTAll, WT, WTs, List.map_cons, List.map_nil, List.toList_toArray, underlying3, underlying29, tc_3, tc_29] at h
 obtain ⟨_, _, rfl, ⟨_, _, rfl, ⟨a0Kind, rfl, ha0Kind⟩, ⟨_, _, rfl, ⟨a0Cell, rfl, ha0Cell⟩, ⟨_, _, rfl, ⟨a0Size, rfl, ha0Size⟩, ⟨_, _, rfl, ⟨a0Val, rfl, ha0Val⟩, rfl⟩⟩⟩⟩, rfl⟩ := h
 simp only [argAVs, argAV, List.toList_toArray, underlying3, underlying29, List.map_cons, List.map_nil, List.cons_append, List.nil_append, List.append_nil, List.headD_cons]
 exact c4 ⟨a0Kind, a0Cell, a0Size, a0Val⟩

theorem own : ownKnob prog.godebug = none := by kernel_rfl
theorem door_met (os : Os) (args : Array Value) : laidMetH prog Rows.fnExactShowOpRow.laid ((World.doorLaid prog 77 os).forCall (fun _ _ => 0) ⟨#[], args, []⟩).memory :=
 laidMetH_of_parts3 (fuel := 8) (laidMet_of_run' 8 (by kernel_rfl) (by kernel_rfl)) (by kernel_rfl) (by kernel_rfl)
theorem glob {W : World} (h : laidMetH prog Rows.fnExactShowOpRow.laid W) : GlobOk W (fun _ => False) := by
 rw [MakeChecks.laidMetH_plain _ _ _ (by kernel_rfl)] at h
 intro t ht
 simp only [tabs, List.mem_cons, List.not_mem_nil, or_false] at ht
 rcases ht with rfl
 ·have hT := Lib.tabIs_of_head (k := .u64) (zs := Lib.pow10Tab) (g := 6) (t := 135) (e := 116) (n := 20) (by kernel_rfl) (by kernel_rfl) underlying135 underlying116 (by kernel_rfl) (by kernel_rfl) h.tail.tail
  obtain ⟨T, fr, hw⟩ := heap_of_var (by kernel_rfl) hT
  exact ⟨id, by simp [pow10T], _, T, fr, hw, ints_repl .u64 Lib.pow10Tab⟩
set_option maxRecDepth 100000 in
theorem lifted (os : Os) (started : os.Started) (H : Type) (enc : TypeId × Value -> H) :
  ReturnsInHanded {} Tryd.checked os 4 .any (fun w args => (Rows.fnExactShowOpSpec.pre enc prog f4 [] false w args /\ laidMetH prog Rows.fnExactShowOpRow.laid w) /\ sizedMet enc prog f4 (OpenSpec.ofChange Rows.fnExactShowOpSpec) false w args)
   (Rows.fnExactShowOpSpec.post enc prog f4 false true false false) := by
 refine returnsInHanded_of_change_and (C := Tryd.checked) (X := fun w _ => laidMetH prog Rows.fnExactShowOpRow.laid w) (fun _ _ _ hh h => h.of_heap hh) own started (by kernel_rfl) func4
  (ChangeSpec.witness_shaped (enc := enc) (C := Tryd.checked) (os := os) (X := fun w _ => laidMetH prog Rows.fnExactShowOpRow.laid w) false (World.doorLaid prog 77 os) #[.agg #[.int .i64 0, .int .i64 0, .int .i64 0, .int .i64 0]] 8 rfl (World.shaped_of_RefB (by kernel_rfl) (by kernel_rfl)) (by kernel_rfl) (by kernel_rfl) (by kernel_rfl) (door_met os _)) ?_
 intro W base args ds gs before hval0 hW _ _ hL _
 have hW' := hW
 obtain ⟨p, q, hA0, hV, rfl, hfz, hnd⟩ := hW'
 have hA : DataW.TrodAll enc prog W 0 (fun _ => true) true f4.params.toList args.toList ds p := hA0
 obtain ⟨dss, h1, h2⟩ := args_rep (n := 8) (by kernel_rfl) (fun j t v hj hv => hval0 j t v (by simpa using hj) (by simpa using hv)) hA
 have hs : Rows.fnExactShowOpSpec.fn H (ds ++ gs) = { results := [.lit (.bool true)], args := ds, vars := gs } := by
  obtain ⟨rfl, rfl⟩ := trodVars_none hV
  rw [params4] at hA
  obtain ⟨v0, vs0, d0, ds0, p0, q0, _, rfl, _, _, r0⟩ := trodAll_cons hA
  obtain ⟨_, rfl, _⟩ := trodAll_nil r0
  rfl
 have hc := law_calls (law dss h1) h2 (glob hL)
 rw [Array.toArray_toList] at hc
 refine hc.mono fun e W' ⟨he, hb⟩ => ?_
 subst he
 exact ⟨_, rfl, law_postV (by kernel_rfl) (by kernel_rfl) (by kernel_rfl) hW hs rfl underlying4 hb⟩

theorem closed : joinedFacts prog 4 f4 Rows.fnExactShowOpSpec Rows.fnExactShowOpRow = true := by
 unfold joinedFacts
 simp only [Bool.and_eq_true, Whole.laidOut, Whole.rowed, Whole.stops, Whole.knobs, Whole.keys, Whole.heard, Whole.enter, Whole.lifts, Whole.make, true_and, and_true]
 repeat' (refine And.intro ?_ ?_)
 all_goals (as_aux_lemma => kernel_rfl)

theorem over : Rows.fnExactShowOpRow.holds Tryd.pinned (OpenSpec.ofChange Rows.fnExactShowOpSpec) :=
 OpenClaim.holds_of_wide 4 f4 rfl rfl rfl rfl rfl rfl rfl ⟨rfl, rfl, rfl, rfl, rfl⟩ rfl rfl rfl rfl rfl (by kernel_rfl) func4 closed
  (of_decide_eq_true (by kernel_rfl)) (by unfold Func.isWrapper; first | (rw [if_pos (by decide +kernel)]; kernel_rfl) | (rw [if_neg (by decide +kernel)]; exact ⟨rfl, rfl⟩))
  (fun os started H enc _ => lifted os started H enc)

theorem proved : Rows.FnExactShowOpCardSaid :=
 Claim7.holds_tied_plain_at .later [] [.data, .data, .data] true (true, "0d0865db12b8f5393674d66c1f0752417bf5fd0889710cf42c65f32ea9d913d2") true
  over (fun _ h => by cases h) (by kernel_rfl) (fun _ h => by cases h) fnExactShowOp_row_tie rfl ⟨rfl, rfl⟩ (by kernel_rfl) rfl
  (fun f fn hf hfn => by
    obtain rfl : f = 4 := (Option.some.inj ((show prog.funcNamed "loop.example/g01538/laws.FnExactShowOp" = some 4 by kernel_rfl).symm.trans hf)).symm
    obtain rfl : fn = f4 := (Option.some.inj (func4.symm.trans hfn)).symm
    exact ⟨by kernel_rfl, fun j t ht => by
     rw [params4] at ht
     rcases j with _ | j
     ·obtain rfl := (show _ = t by simpa using ht)
      kernel_rfl
     ·simp at ht⟩)
  (by kernel_rfl)
end Go.Proofs.YtmgemgeeoconbaaDoor.fnExactShowOp
