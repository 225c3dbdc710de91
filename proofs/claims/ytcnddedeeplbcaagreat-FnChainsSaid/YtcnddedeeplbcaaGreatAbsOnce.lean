/- A region of open order in which a slice literal stands ahead of calls that bring nothing: the literal may come at any time. Own work. -/
import Derived.Test.YtcnddedeeplbcaaGreatAbsPlan
namespace Go.Abs
set_option linter.unusedVariables false
set_option linter.unusedSimpArgs false

def allC:List (Nat × Operand) -> Bool
 | []=>true
 | (_,.const _) :: r=>allC r
 | _ :: _=>false
def isLitC:Op -> Bool
 | .buildSlice _ _ parts=>allC parts.toList && !parts.toList.isEmpty
 | _=>false
def isIdxT:Op -> Bool
 | .indexAddr _ (.tmp _) _=>true
 | _=>false
def isAddV:Op -> Bool
 | .binOp .add _ _ _ _=>true
 | _=>false
def onceL:List Oper -> Nat -> Bool
 | [],_=>false
 | o :: r,0=>onceL r (bif isLitC o.op then 1 else bif callV o.op then 3 else 0)
 | o :: r,1=>onceL r (bif isIdxT o.op then 2 else 1)
 | o :: r,2=>bif callV o.op then true else onceL r 2
 | o :: r,3=>onceL r (bif litV o.op then 4 else 3)
 | o :: r,4=>onceL r (bif callV o.op then 5 else 4)
 | o :: r,5=>bif isAddV o.op then true else onceL r 5
 | _ :: _,_ + 6=>false
def litB (ops:Array Oper) (j:Nat):Bool:=match ops[j]? with
 | some o=>litV o.op
 | none=>false
def onceOk (ops:Array Oper):Bool :=
 ops.toList.zipIdx.all fun (o,j)=>!litV o.op || ops.toList.zipIdx.all fun (p,i)=>!(decide (i < j) && litV p.op) || chained ops i ops.size j
def drawP (P:Program) (ops:Array Oper):List Oper -> St -> (St -> Prop) -> Prop
 | [],st,Q=>Q st
 | o :: r,st,Q =>
  if litV o.op && o.guard.isNone then o.dst.isSome=true /\ vlitQ P st o (fun v st'=>drawP P ops r (st'.putO o.dst (some v)) Q) fun _ _ _=>False
  else if callV o.op && o.guard.isNone then o.dst.isSome=true /\ condCall P st o true (fun v=>drawP P ops r (st.putO o.dst (some v)) Q)
  else o.dst.isSome=true /\ stepD P ops st o fun v=>drawP P ops r (st.putO o.dst (some v)) Q
def OnceP (P:Program) (ops:Array Oper) (st:St) (K:St -> Prop):Prop:=onceOk ops=true /\ drawP P ops ops.toList st K

section
variable {P:Program} {B:Base} {N:Nat} {st:St} {β:Nat -> Info} {φ:Nat -> List Nat} {a:Act} {w:World}

theorem onceOk_spec {ops:Array Oper} (h:onceOk ops=true) (n:Nat):BringOkB ops n (litB ops):=fun i j p o hj hp ho hij hbp hbo listed hcl hed=>by
 have mem:∀ (j:Nat) (o:Oper),ops[j]?=some o -> (o,j) ∈ ops.toList.zipIdx:=fun j o hj=>by
  rw [List.mem_zipIdx_iff_getElem?]
  simpa using hj
 have hbp:litV p.op=true:=by unfold litB at hbp;rw [hp] at hbp;exact hbp
 have hbo:litV o.op=true:=by unfold litB at hbo;rw [ho] at hbo;exact hbo
 have h1:=List.all_eq_true.1 h _ (mem j o ho)
 simp only [hbo,Bool.not_true,Bool.false_or] at h1
 have h2:=List.all_eq_true.1 h1 _ (mem i p hp)
 simp only [hbp,hij,decide_true,Bool.and_self,Bool.not_true,Bool.false_or] at h2
 exact chained_spec hcl _ j o h2 ho hed

theorem drawP_ex {ops:Array Oper} {K:St -> Prop}:∀ (l:List Oper) (st:St) (pre:List Oper),ops.toList=pre ++ l -> drawP P ops l st K -> DrawnB true (litB ops) P ops l st [] K
 | [],st,pre,_,h=>.nil step0_refl h
 | o :: l,st,pre,hpre,h=>by
  have hsz:ops.size=pre.length + (l.length + 1):=by rw [<- Array.length_toList,hpre];simp
  have hnext:ops.toList=(pre ++ [o]) ++ l:=by rw [hpre];simp
  have dst:o.dst.isSome=true -> fstOk true o:=fun h=>by
   show ∃ d,_
   exact Option.isSome_iff_exists.1 h
  have hb:litB ops (ops.size - (l.length + 1))=litV o.op:=by
   unfold litB
   rw [<- Array.getElem?_toList,hpre,show ops.size - (l.length + 1)=pre.length from by omega,List.getElem?_append_right (Nat.le_refl _),Nat.sub_self]
   rfl
  have pure:∀ {K':AV -> Prop},o.dst.isSome=true -> stepD P ops st o K' -> (∀ v,K' v -> drawP P ops l (st.putO o.dst (some v)) K) -> DrawnB true (litB ops) P ops (o :: l) st [] K:=fun {K'} hd hs hk=>by
   obtain ⟨v,h1,h2⟩:=stepD_ex hs
   exact .cons (al:=none) (by omega) (dst hd) (x:=[]) (.inl ⟨rfl,rfl,h1⟩) (by rw [after_nil];exact drawP_ex l _ _ hnext (hk v h2))
  simp only [drawP] at h
  split at h
  ·rename_i hc
   simp only [Bool.and_eq_true] at hc
   obtain ⟨hd,h⟩:=h
   rcases vlitQ_ex h with ⟨x,v,os,h1,h2⟩ | ⟨v,os,h1,h2⟩
   ·exact h2.elim
   ·exact .cons (al:=none) (by omega) (dst hd) (.inr (.inl ⟨rfl,by rw [hb];exact hc.1,by simpa using hc.2,.inr (.inr h1)⟩)) (drawP_ex l _ _ hnext h2)
  ·split at h
   ·rename_i hc
    simp only [Bool.and_eq_true] at hc
    exact pure h.1 (condCall_stepD hc.1 hc.2 h.2) fun v hv=>hv
   ·exact pure h.1 h.2 fun v hv=>hv

theorem once_wp {ops:Array Oper} {id:Nat} {Q:Exit -> Act -> World -> Prop} {K:St -> Prop} (hm:P.follows .mixedOrders=true) (hok:drawOk ops N=true)
  (hQ:∀ st' β φ a w,SR B N st' β φ a w -> K st' -> Q .normal a w) (h:SR B N st β φ a w) (hq:OnceP P ops st K):RegW P id ops true Q a w :=
 drawB_wp (fl:=true) hm hok (fun l' l2 _ _=>onceOk_spec hq.1 _) hQ h rfl rfl rfl (fun _ _=>rfl) h.dead (drawP_ex _ _ [] rfl hq.2)
end
end Go.Abs
