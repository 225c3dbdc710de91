/- Regions, also within a round of a loop over a function: they do there what they do elsewhere, and write their own temporaries alone. -/
import Derived.Test.YtcnddedeeplbcaaGreatAbsStep
import Derived.OrdersIn
import Derived.TacticsIn
import Derived.RangeFuncCalls
namespace Go.Abs
set_option linter.unusedVariables false
set_option linter.unusedSimpArgs false

def RegW (P:Program) (id:Nat) (ops:Array Oper) (draw:Bool) (Q:Exit -> Act -> World -> Prop) (a:Act) (w:World):Prop :=
 (Code.region id ops draw).wp P Q a w /\
 (¬ LetsOut Q -> (∀ (i:Nat) (o:Oper),ops[i]?=some o -> ∀ c,o.op ≠ .defer c) -> ∀ (l n:Nat) (T:Nat -> Prop),(∀ (i:Nat) (o:Oper) (t:Nat),ops[i]?=some o -> o.dst=some t -> ¬ T t) ->
   (Code.region id ops draw).wpIn (Fence.wide.inRound l) n P (fun e a' w'=>Q e a' w' /\ (e=.normal -> ∀ t,T t -> a'.tmps[t]?=a.tmps[t]?)) a w)

theorem put_keep {a a0:Act} {T:Nat -> Prop} {d:Option Nat} {v:Value} (hd:∀ t,d=some t -> ¬ T t) (h:∀ t,T t -> a.tmps[t]?=a0.tmps[t]?):∀ t,T t -> (a.put d v).tmps[t]?=a0.tmps[t]?:=fun t ht=>by
 cases d with
 | none=>exact h t ht
 | some d =>
  have:d ≠ t:=fun e=>hd d rfl (e ▸ ht)
  show (a.tmps.setIfInBounds d v)[t]?=_
  rw [Array.getElem?_setIfInBounds_ne this]
  exact h t ht

theorem opsIn_of {P:Program} {ops:Array Oper} {Q:Exit -> Act -> World -> Prop} {l n:Nat} (hL:¬ LetsOut Q) (hd:∀ (i:Nat) (o:Oper),ops[i]?=some o -> ∀ c,o.op ≠ .defer c) {T:Nat -> Prop}
  (hT:∀ (i:Nat) (o:Oper) (t:Nat),ops[i]?=some o -> o.dst=some t -> ¬ T t) (a0:Act):∀ (is:List Nat) (a:Act) (w:World),(∀ t,T t -> a.tmps[t]?=a0.tmps[t]?) -> wpOps P ops Q is a w ->
  wpOpsIn (Fence.wide.inRound l) n P ops (fun e a' w'=>Q e a' w' /\ (e=.normal -> ∀ t,T t -> a'.tmps[t]?=a0.tmps[t]?)) is a w
 | [],a,w,ha,h=>⟨h,fun _=>ha⟩
 | i :: rest,a,w,ha,h=>by
  have ih:=opsIn_of (P:=P) (l:=l) (n:=n) hL hd hT a0 rest
  simp only [wpOps,wpOpsIn] at h ⊢
  cases ho:ops[i]? with
  | none=>simp only [ho] at h ⊢;exact ih a w ha h
  | some o =>
   simp only [ho] at h ⊢
   by_cases hw:Region.wanted o (yielded ops a.tmps)=true
   ·simp only [hw,if_true] at h ⊢
    have h:=h.resolve_right (fun x=>hL x.2)
    refine ⟨fun _ _=>trivial,?_⟩
    rw [show (Fence.wide.inRound l).round=some l from rfl,Oper.semAt_some l a.eval o (hd i o ho)]
    unfold Oper.wp at h
    generalize (execOp a.eval o).run P w=r at h
    cases r with
    | ok nx w' =>
     cases nx <;> first | exact h.elim | skip
     case value v=>exact ih _ _ (put_keep (hT i o · ho) ha) h
     case skip=>exact ih _ _ (put_keep (hT i o · ho) ha) h
     case defer d=>exact ih _ _ (put_keep (a:={ a with defers:=d :: a.defers }) (hT i o · ho) ha) h
     case enter f args =>
      refine ⟨(fun hn=>by cases hn),CallsIn.inRound l (callsIn_wide.2 (Calls.mono h fun e w'' hq=>?_))⟩
      cases e with
      | returned v=>exact ih _ _ (put_keep (hT i o · ho) ha) hq
      | panicked ch=>exact ⟨hq,fun e=>by cases e⟩
      | outgrown=>exact absurd hq hL
     case row row args =>
      refine ⟨(fun hn=>by cases hn),fun c cs _=>?_⟩
      obtain ⟨v,w'',hr,hs⟩:=h c cs
      exact ⟨v,w'',ih _ _ (put_keep (hT i o · ho) ha) hr,stepsIn_wide.2 hs⟩
    | halt x w' =>
     cases x <;> first | exact h.elim | exact ⟨h,fun e=>by cases e⟩
   ·simp only [hw,if_false,Bool.false_eq_true] at h ⊢
    exact ⟨fun _ _=>trivial,ih _ _ (put_keep (hT i o · ho) ha) h⟩

theorem regW_ops {P:Program} {id:Nat} {ops:Array Oper} {Q:Exit -> Act -> World -> Prop} {a:Act} {w:World} (h:wpOps P ops Q (List.range ops.size) a w):RegW P id ops false Q a w :=
 ⟨wp_region h,fun hL hd l n T hT=>wpIn_region (opsIn_of hL hd hT a _ a w (fun _ _=>rfl) h)⟩

theorem regW_any {P:Program} {id:Nat} {ops:Array Oper} {Q:Exit -> Act -> World -> Prop} {a:Act} {w:World} (hm:P.follows .mixedOrders=true)
  (h:wpAny P .any ops Q ops.size (Array.replicate ops.size false) a { w with drawn:=w.drawn + 1 }):RegW P id ops true Q a w :=
 ⟨wp_region_any hm h,fun hL hd l n T hT=>wpIn_region_draw fun t=>by
  simp only [Region.schedule,hm,Bool.true_or,if_true]
  exact opsIn_of hL hd hT a _ a _ (fun _ _=>rfl) (wpAny_sound ops.size t _ a _ h)⟩

end Go.Abs
