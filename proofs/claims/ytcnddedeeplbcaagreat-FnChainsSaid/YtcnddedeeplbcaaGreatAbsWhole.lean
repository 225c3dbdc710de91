/- Contracts over all objects of the caller: the callee may write variables that it is given by their address. Own work. -/
import Derived.Test.YtcnddedeeplbcaaGreatAbsShare
namespace Go.Abs
set_option linter.unusedVariables false

def numbered:Nat -> List AObj -> List (Nat × AObj)
 | _,[]=>[]
 | k,x :: xs=>(k,x) :: numbered (k + 1) xs

def mkSt (env:List (Nat × AV)) (xs:List AObj):St:=⟨env,numbered 0 xs,xs.length⟩

theorem find_numbered:∀ (xs:List AObj) (k o:Nat),(find (numbered k xs) o).getD .dead=if k <= o then xs.getD (o - k) .dead else .dead
 | [],k,o=>by simp [numbered,find]
 | x :: xs,k,o=>by
  by_cases e:o=k
  ·subst e;simp [numbered,find]
  ·rw [numbered,find_cons_ne _ _ e,find_numbered xs (k + 1) o]
   by_cases h:k + 1 <= o
   ·rw [if_pos h,if_pos (by omega),show o - k=(o - (k + 1)) + 1 from by omega]
    simp
   ·rw [if_neg h,if_neg (by omega)]

theorem mkSt_obj (env:List (Nat × AV)) (xs:List AObj) (o:Nat):(mkSt env xs).obj o=xs.getD o .dead:=by
 show (find (numbered 0 xs) o).getD .dead=_
 rw [find_numbered,if_pos (Nat.zero_le _),Nat.sub_zero]

structure CtrW (P:Program) (f:FuncId) (as:List AV) (objs:List AObj) (R:AV -> List AObj -> Prop):Prop where
 calls:∀ (w:World) (β:Nat -> Info) (φ:Nat -> List Nat) (vs:Array Value),OR w β φ objs -> ArgsRel (lctx w β φ objs) as vs ->
  Calls P f vs w fun e w'=>∃ r objs',R r objs' /\ objs.length <= objs'.length /\ (∀ o,o < objs.length -> Compat (Objs objs o) (Objs objs' o)) /\ ∃ v β' φ',e=.returned v /\ OR w' β' φ' objs' /\ (∀ o,o < objs.length -> β' o=β o) /\ (∀ o,∀ b ∈ φ' o,w.heap.size <= b \/ ∃ o1,b ∈ φ o1) /\
   AVRel (lctx w' β' φ' objs') r v /\ Frm w (fun b=>∃ o,b ∈ φ o) w'

def wholeFrom (st:St):Nat -> Nat -> List AObj
 | _,0=>[]
 | k,n + 1=>st.obj k :: wholeFrom st (k + 1) n
def St.whole (st:St):List AObj:=wholeFrom st 0 st.next
def St.behind (st:St) (objs':List AObj):St:=mkSt st.env objs'

theorem wholeFrom_length (st:St):∀ (n k:Nat),(wholeFrom st k n).length=n
 | 0,_=>rfl
 | n + 1,k=>by rw [wholeFrom,List.length_cons,wholeFrom_length st n]
theorem wholeFrom_get (st:St):∀ (n k o:Nat),o < n -> (wholeFrom st k n)[o]?=some (st.obj (k + o))
 | n + 1,k,0,_=>rfl
 | n + 1,k,o + 1,h=>by
  rw [wholeFrom,List.getElem?_cons_succ,wholeFrom_get st n (k + 1) o (by omega)]
  congr 2;omega

section
variable {P:Program} {B:Base} {N:Nat} {st:St} {β:Nat -> Info} {φ:Nat -> List Nat} {a:Act} {w w':World}

theorem whole_ob (h:SR B N st β φ a w) (o:Nat):Objs st.whole o=st.obj o:=by
 unfold Objs St.whole
 by_cases ho:o < st.next
 ·rw [List.getD_eq_getElem?_getD,wholeFrom_get st _ _ _ ho,Nat.zero_add];rfl
 ·rw [List.getD_eq_getElem?_getD,List.getElem?_eq_none (by rw [wholeFrom_length];omega),h.dead o (by omega)];rfl

theorem whole_ctx (h:SR B N st β φ a w) (w1:World) (β1:Nat -> Info) (φ1:Nat -> List Nat):lctx w1 β1 φ1 st.whole=st.ctx w1 β1 φ1:=by
 show Ctx.mk w1 β1 (Objs st.whole) _ _=_
 rw [show Objs st.whole=st.obj from funext fun o=>whole_ob h o,show st.whole.length=st.next from wholeFrom_length st _ _]
 rfl

theorem behind_ctx (st:St) (objs':List AObj) (w1:World) (β1:Nat -> Info) (φ1:Nat -> List Nat):(st.behind objs').ctx w1 β1 φ1=lctx w1 β1 φ1 objs':=by
 show Ctx.mk w1 β1 (st.behind objs').obj _ _=_
 rw [show (st.behind objs').obj=Objs objs' from funext fun k=>mkSt_obj st.env objs' k]
 rfl

theorem whole_OR (h:SR B N st β φ a w):OR w β φ st.whole:=by
 refine ⟨fun o=>?_,h.nodup,h.disj,fun o b hb=>(h.fp o b hb).1,h.glob⟩
 rw [whole_ctx h]
 exact h.objs o

theorem SR.behind (h:SR B N st β φ a w) {objs':List AObj} (hlen:st.next <= objs'.length) (hcomp:∀ o,o < st.next -> Compat (st.obj o) (Objs objs' o)) {β1:Nat -> Info} {φ1:Nat -> List Nat} (hOR:OR w' β1 φ1 objs')
  (hβ:∀ o,o < st.next -> β1 o=β o) (hφ:∀ o,∀ b ∈ φ1 o,w.heap.size <= b \/ ∃ o1,b ∈ φ o1) (hfrm:Frm w (fun b=>∃ o,b ∈ φ o) w') :
  (st.ctx w β φ).Le ((st.behind objs').ctx w' β1 φ1) /\ SR B N (st.behind objs') β1 φ1 a w' :=
 h.change (st':=st.behind objs') (β':=β1) (φ':=φ1) (w':=w') (fun _=>True) rfl hlen (fun o ho=>absurd trivial ho) hβ (fun o ho=>absurd trivial ho)
  (fun o ho=>by
    show (mkSt st.env objs').obj o=_
    have ho:objs'.length <= o:=ho
    rw [mkSt_obj,List.getD_eq_getElem?_getD,List.getElem?_eq_none ho];rfl)
  (fun o _ ho=>⟨by rw [show (st.behind objs').obj o=Objs objs' o from mkSt_obj st.env objs' o];exact hcomp o ho,fun _=>hβ o ho⟩)
  (hfrm.mono fun b _ ⟨o,hb⟩=>⟨o,trivial,hb⟩)
  (fun _ o _=>by rw [behind_ctx];exact hOR.objs o)
  (fun o _=>hOR.nodup o)
  (fun o _ b hb=>⟨hOR.fp o b hb,(hφ o b hb).imp id fun ⟨o1,h1⟩=>⟨o1,trivial,h1⟩⟩)
  (fun o o' _ _ hne=>hOR.disj o o' hne)
end
end Go.Abs
