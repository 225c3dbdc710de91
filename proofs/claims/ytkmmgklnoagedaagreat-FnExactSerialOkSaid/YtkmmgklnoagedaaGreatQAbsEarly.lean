import Derived.Test.YtkmmgklnoagedaaGreatQAbsFloat
/- A region of open order with variables that may come early: their numbers are fixed ahead. Own work. -/
namespace Go.Abs
set_option linter.unusedVariables false
set_option linter.unusedSimpArgs false
def setB (st : St) (f : Nat -> AObj) : List (Nat × Nat) -> St
 | [] => st
 | (_, m) :: r => (setB st f r).setObj m (f m)
def keepB (st : St) (f : Nat -> AObj) : List (Nat × Nat) -> Prop
 | [] => True
 | (_, m) :: r => st.obj m = f m /\ keepB st f r
def numB (i : Nat) : List (Nat × Nat) -> Option Nat
 | [] => none
 | (j, m) :: r => match decide (i = j) with
  | true => some m
  | false => numB i r
def dropB (i : Nat) : List (Nat × Nat) -> List (Nat × Nat)
 | [] => []
 | (j, m) :: r => match decide (i = j) with
  | true => r
  | false => (j, m) :: dropB i r
def regE (P : Program) (ops : Array Oper) : List (Nat × List Nat) -> List (Nat × Nat) -> List Nat -> St -> (St -> Prop) -> Prop
 | r, [], _, st, K => regF P ops r st K
 | [], _ :: _, _, _, _ => False
 | (i, cs) :: r, p :: pn, ks, st, K => match ops[i]? with
  | none => False
  | some o => match readV o with
   | true => match opR P st o with
    | some (q, some v, _) => q /\ regE P ops r (p :: pn) (i :: ks) (st.putO o.dst (some v)) K
    | _ => False
   | false => match numB i (p :: pn) with
    | some m => match o.op with
     | .alloc t => match tz P t with
      | some ds => ∀ f, chk P ops ks (setB st f (p :: pn)) /\ chk P ops cs (((setB st f (p :: pn)).setObj m (.box (ds.map zleaf))).putO o.dst (some (.one (.ptr (.own m 0 0))))) /\
        regE P ops r (dropB i (p :: pn)) ks (((setB st f (p :: pn)).setObj m (.box (ds.map zleaf))).putO o.dst (some (.one (.ptr (.own m 0 0))))) K
      | none => False
     | _ => False
    | none => ∀ f, chk P ops ks (setB st f (p :: pn)) /\ opQ P (setB st f (p :: pn)) o fun v s => keepB s f (p :: pn) /\ chk P ops cs (s.putO o.dst v) /\ regE P ops r (p :: pn) ks (s.putO o.dst v) K
section
variable {P : Program} {B : Base} {N : Nat} {st st' : St} {β : Nat -> Info} {φ : Nat -> List Nat} {a a' : Act} {w w' : World}
def roomN : Nat -> St -> St
 | 0, st => st
 | k + 1, st => roomN k (st.addObj .hole)
def numsB : List Nat -> Nat -> List (Nat × Nat)
 | [], _ => []
 | i :: al, n => (i, n) :: numsB al (n + 1)
def varsOk (P : Program) (ops : Array Oper) (al : List Nat) : Bool := decide al.Nodup && al.all fun i => match ops[i]? with
 | some o => o.dst.isSome && match o.op with
  | .alloc t => (tz P t).isSome
  | _ => false
 | none => false
def floatOkE (P : Program) (ops : Array Oper) (pi : List (Nat × List Nat)) (al : List Nat) : Bool :=
 (List.range ops.size).all (fun i => (pi.map (·.1)).contains i) && decide (pi.map (·.1)).Nodup && linOk ops [] pi && chainOk ops al pi && sixOk ops [] pi && ssaOk ops && varsOk P ops al
theorem SR.hole (h : SR B N st β φ a w) : ∃ β' φ', SR B N (st.addObj .hole) β' φ' a w :=
 ⟨_, _, (h.add .hole (β st.next) [] (Frm.refl w _) (by simp) (by simp) (fun le => by
  unfold ObjRel
  rw [show ((st.addObj .hole).ctx w (upd β st.next (β st.next)) (upd φ st.next [])).ob st.next = .hole from St.obj_addObj_same st _]
  exact upd_same ..)).2⟩
def FloatE (P : Program) (ops : Array Oper) (st : St) (K : St -> Prop) : Prop := ∃ pi al, floatOkE P ops pi al = true /\ regE P ops pi (numsB al st.next) [] (roomN al.length st) K
def isExt : Op -> Bool
 | .extract .. => true
 | _ => false
def isStore : Op -> Bool
 | .store .. => true
 | _ => false
def memN (t : Nat) : List Nat -> Bool
 | [] => false
 | x :: r => if t = x then true else memN t r
def putD (d : Option Tmp) (ls : List Nat) : List Nat := match d with
 | some d => d :: ls
 | none => ls
def appOf (ls : List Nat) : Op -> Bool
 | .call { callee := .builtin .append, args, .. } => match args.toList with
  | .tmp t :: _ => memN t ls
  | _ => false
 | _ => false
def floatL : List Oper -> List Nat -> List Nat -> Bool -> Bool -> Bool -> Nat -> Bool -> Bool
 | [], _, _, _, _, _, _, _ => false
 | o :: r, ls, es, c, n, s, x, a => match (appOf ls o.op && c) || (appOf es o.op && (!c || n)) || (callV o.op && c && !ls.isEmpty && decide (o.type = 0)) || (isStore o.op && (s || decide (2 <= x)) && !ls.isEmpty) with
  | true => true
  | false => floatL r (match isLoad o.op && !c with
   | true => putD o.dst ls
   | false => ls) (match lit0 o.op && !ls.isEmpty with
   | true => putD o.dst es
   | false => es) (c || callV o.op) (n || appOf es o.op) (s || isStore o.op) (match isExt o.op with
   | true => x + 1
   | false => x) (a || isAlloc o.op)
def drawZ (P : Program) (ops : Array Oper) (st : St) (Q : St -> Prop) : Prop :=
 if (bif hasMake ops.toList then twoMake ops.toList 0 else false) = true then (bringOk ops = true /\ drawM P ops ops.toList (resvM P ops.toList st) [] (resvMIds ops.toList st.next) Q) else drawY P ops st Q
theorem ja {ops : Array Oper} {id : Nat} {Q : Exit -> Act -> World -> Prop} {K : St -> Prop} (hm : P.follows .mixedOrders = true) (hok : drawOk ops N = true)
  (hQ : ∀ st' β φ a w, SR B N st' β φ a w -> K st' -> Q .normal a w) (h : SR B N st β φ a w) (hq : drawZ P ops st K) : RegW P id ops true Q a w := by
 unfold drawZ at hq
 split at hq
 ·exact mz hm hok hq.1 hQ h hq.2
 ·exact mw hm hok hQ h hq
end
end Go.Abs
