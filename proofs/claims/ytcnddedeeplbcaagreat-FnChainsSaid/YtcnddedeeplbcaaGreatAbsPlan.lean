/- A region of open order where all orders are told: moves may be taken first, whatever else is ready is told in each order. -/
import Derived.Test.YtcnddedeeplbcaaGreatAbsQuiet
namespace Go.Abs
set_option linter.unusedVariables false
set_option linter.unusedSimpArgs false

inductive Plan where
 | done
 | step (i:Nat) (p:Plan)
 | two (i:Nat) (p:Plan) (j:Nat) (q:Plan)

def Plan.size:Plan -> Nat
 | .done=>0
 | .step _ p=>p.size + 1
 | .two _ p _ q=>max p.size q.size + 1

def moveV (o:Oper):Bool:=o.guard.isNone && match o.op with
 | .move _ | .assign _=>true
 | _=>false

def firstOk (ops:Array Oper) (listed:Array Bool) (i:Nat):Bool:=match ops[i]? with
 | some o=>moveV o && !(listed.getD i true) && (o.after.all fun e=>!Region.binds .any e || listed.getD e.on false) &&
   ops.toList.zipIdx.all fun (p,j)=>j == i || listed.getD j true || (p.after.any fun e=>Region.binds .any e && e.on == i) || o.apart ops p
 | none=>false

def planGo (ops:Array Oper):Plan -> Array Bool -> Bool
 | .done,l=>(Region.ready .any ops l).isEmpty
 | .step i p,l=>(Region.ready .any ops l == [i] || firstOk ops l i) && planGo ops p (l.setIfInBounds i true)
 | .two i p j q,l=>Region.ready .any ops l == [i,j] && planGo ops p (l.setIfInBounds i true) && planGo ops q (l.setIfInBounds j true)

def plainAll (ops:Array Oper):Bool:=ops.toList.all fun o=>match o.op with
 | .select _ _=>false
 | _=>true

def planOk (ops:Array Oper) (p:Plan):Bool:=plainAll ops && decide (p.size <= ops.size) && planGo ops p (Array.replicate ops.size false)

def regT (P:Program) (ops:Array Oper):Plan -> St -> (St -> Prop) -> Prop
 | .done,st,K=>K st
 | .step i p,st,K=>match ops[i]? with
  | some o=>stepQ P ops st o fun s=>regT P ops p s K
  | none=>False
 | .two i p j q,st,K=>(match ops[i]? with
  | some o=>stepQ P ops st o fun s=>regT P ops p s K
  | none=>False) /\ (match ops[j]? with
  | some o=>stepQ P ops st o fun s=>regT P ops q s K
  | none=>False)

def PlanP (P:Program) (ops:Array Oper) (st:St) (K:St -> Prop):Prop:=∃ p,planOk ops p=true /\ regT P ops p st K

section
variable {P:Program} {B:Base} {N:Nat} {st st':St} {β:Nat -> Info} {φ:Nat -> List Nat} {a:Act} {w w':World}

theorem beq_list_eq {l l':List Nat} (h:(l == l')=true):l=l':=eq_of_beq h

theorem plan_any {ops:Array Oper} {Q:Exit -> Act -> World -> Prop} {K:St -> Prop} (hN:∀ (j:Nat) (o:Oper),ops[j]?=some o -> ∀ t,o.dst=some t -> t < N) (hpl:plainAll ops=true)
  (hQp:∀ e a w,Q e a w -> e=.normal) (hQ:∀ st' β φ a w,SR B N st' β φ a w -> K st' -> Q .normal a w):∀ (p:Plan) (listed:Array Bool) (fuel:Nat) {st:St} {β:Nat -> Info} {φ:Nat -> List Nat} {a:Act} {w:World},
  planGo ops p listed=true -> p.size <= fuel -> SR B N st β φ a w -> regT P ops p st K -> wpAny P .any ops Q fuel listed a w
 | .done,listed,fuel,st,β,φ,a,w,hg,hf,h,hq=>by
  have hr:Region.ready .any ops listed=[]:=List.isEmpty_iff.1 hg
  cases fuel with
  | zero=>exact ⟨hr,hQ _ _ _ _ _ h hq⟩
  | succ f=>exact ⟨fun _=>hQ _ _ _ _ _ h hq,fun i hi=>by rw [hr] at hi;cases hi⟩
 | .step i p,listed,fuel,st,β,φ,a,w,hg,hf,h,hq=>by
  simp only [planGo,Bool.and_eq_true,Bool.or_eq_true] at hg
  obtain ⟨hr,hg⟩:=hg
  simp only [Plan.size] at hf
  obtain ⟨f,rfl⟩:∃ f,fuel=f + 1:=⟨fuel - 1,by omega⟩
  simp only [regT] at hq
  cases ho:ops[i]? with
  | none=>rw [ho] at hq;exact hq.elim
  | some o =>
   rw [ho] at hq
   have hs:=stepQ_wp (Q:=Q) (next:=wpAny P .any ops Q f (listed.setIfInBounds i true)) h (hN i o ho) hq (fun β' φ' w' st' x sr hK=>plan_any hN hpl hQp hQ p _ f hg (by omega) sr hK)
   rcases hr with hr | hr
   ·have hr:=beq_list_eq hr
    refine ⟨(fun e=>by rw [hr] at e;cases e),fun j hj=>?_⟩
    rw [hr] at hj
    have hji:=List.mem_singleton.1 hj
    subst hji
    unfold wpOp
    rw [ho]
    simp only
    split at hs
    ·rename_i hw;rw [if_pos hw];exact .inl hs
    ·rename_i hw;rw [if_neg hw];exact hs
   ·unfold firstOk at hr
    rw [ho] at hr
    simp only [Bool.and_eq_true,Bool.not_eq_true',Array.all_eq_true_iff_forall_mem,Bool.or_eq_true,List.all_eq_true] at hr
    obtain ⟨⟨⟨hmv,hun⟩,haf⟩,hap⟩:=hr
    have hsel:∀ (j:Nat) (o:Oper) cs b,ops[j]?=some o -> o.op ≠ .select cs b:=fun j o cs b hj e=>by
     have:=List.all_eq_true.1 hpl o (List.mem_of_getElem? (by simpa using hj))
     rw [e] at this
     cases this
    unfold moveV at hmv
    simp only [Bool.and_eq_true] at hmv
    have hgd:o.guard=none:=Option.isNone_iff_eq_none.1 hmv.1
    have hwant:Region.wanted o (yielded ops a.tmps)=true:=by unfold Region.wanted;rw [hgd]
    rw [if_pos hwant] at hs
    obtain ⟨x,hx⟩:∃ x,∀ (b:Act) (w:World),(execOp b.eval o).run P w=.ok (.value (b.eval x)) w:=by
     have h2:=hmv.2
     split at h2
     ·rename_i x e;exact ⟨x,fun b w=>by unfold execOp;simp only [e];simp⟩
     ·rename_i x e;exact ⟨x,fun b w=>by unfold execOp;simp only [e];simp⟩
     ·cases h2
    unfold Oper.wp at hs
    rw [hx a w] at hs
    have hs:wpAny P .any ops Q f (listed.setIfInBounds i true) (a.put o.dst (a.eval x)) w:=hs
    refine wpAny_first (v:=a.eval x) ho hsel (fun c a w hq=>by cases hQp _ _ _ hq) f listed a w (fun j oj hj hne hlj hno=>?_) ?_ (.inl ⟨hwant,fun w=>hx a w⟩) hs
    ·have hz:(oj,j) ∈ ops.toList.zipIdx:=by
      rw [List.mem_zipIdx_iff_getElem?]
      simpa using hj
     rcases hap (oj,j) hz with ((h1 | h1) | h1) | h1
     ·exact absurd (by simpa using h1) hne
     ·rw [hlj] at h1;cases h1
     ·obtain ⟨e,he,hb⟩:=Array.any_eq_true'.1 h1
      simp only [Bool.and_eq_true,beq_iff_eq] at hb
      exact absurd hb.2 (hno e he hb.1)
     ·exact h1
    ·rw [mem_ready]
     refine ⟨hun,o,ho,fun e he hb=>?_⟩
     rcases haf e he with h1 | h1
     ·rw [hb] at h1;cases h1
     ·exact h1
 | .two i p j q,listed,fuel,st,β,φ,a,w,hg,hf,h,hq=>by
  simp only [planGo,Bool.and_eq_true] at hg
  obtain ⟨⟨hr,hg1⟩,hg2⟩:=hg
  have hr:=beq_list_eq hr
  simp only [Plan.size] at hf
  obtain ⟨f,rfl⟩:∃ f,fuel=f + 1:=⟨fuel - 1,by omega⟩
  simp only [regT] at hq
  obtain ⟨hq1,hq2⟩:=hq
  refine ⟨(fun e=>by rw [hr] at e;cases e),fun k hk=>?_⟩
  rw [hr] at hk
  have hk:k=i \/ k=j:=by simpa using hk
  rcases hk with rfl | rfl
  ·cases ho:ops[k]? with
   | none=>rw [ho] at hq1;exact hq1.elim
   | some o =>
    rw [ho] at hq1
    have hs:=stepQ_wp (Q:=Q) (next:=wpAny P .any ops Q f (listed.setIfInBounds k true)) h (hN k o ho) hq1 (fun β' φ' w' st' x sr hK=>plan_any hN hpl hQp hQ p _ f hg1 (by omega) sr hK)
    unfold wpOp
    rw [ho]
    simp only
    split at hs
    ·rename_i hw;rw [if_pos hw];exact .inl hs
    ·rename_i hw;rw [if_neg hw];exact hs
  ·cases ho:ops[k]? with
   | none=>rw [ho] at hq2;exact hq2.elim
   | some o =>
    rw [ho] at hq2
    have hs:=stepQ_wp (Q:=Q) (next:=wpAny P .any ops Q f (listed.setIfInBounds k true)) h (hN k o ho) hq2 (fun β' φ' w' st' x sr hK=>plan_any hN hpl hQp hQ q _ f hg2 (by omega) sr hK)
    unfold wpOp
    rw [ho]
    simp only
    split at hs
    ·rename_i hw;rw [if_pos hw];exact .inl hs
    ·rename_i hw;rw [if_neg hw];exact hs

theorem RegW.mono {id:Nat} {ops:Array Oper} {draw:Bool} {Q Q':Exit -> Act -> World -> Prop} (h:RegW P id ops draw Q a w) (hq:∀ e a w,Q e a w -> Q' e a w) (hl:¬ LetsOut Q):RegW P id ops draw Q' a w :=
 ⟨wp_mono h.1 hq,fun _ hd l n T hT=>wpIn_mono (h.2 hl hd l n T hT) fun e a w ⟨x,y⟩=>⟨hq e a w x,y⟩⟩

theorem plan_wp {ops:Array Oper} {id:Nat} {Q:Exit -> Act -> World -> Prop} {K:St -> Prop} (hm:P.follows .mixedOrders=true) (hok:drawOk ops N=true)
  (hQ:∀ st' β φ a w,SR B N st' β φ a w -> K st' -> Q .normal a w) (h:SR B N st β φ a w) (hq:PlanP P ops st K):RegW P id ops true Q a w:=by
 obtain ⟨p,hp,hq⟩:=hq
 unfold planOk at hp
 simp only [Bool.and_eq_true,decide_eq_true_eq] at hp
 obtain ⟨⟨h1,h2⟩,h3⟩:=hp
 obtain ⟨hs1,_⟩:=drawOk_spec hok
 refine RegW.mono (Q:=fun e a w=>e=.normal /\ Q .normal a w) ?_ (fun e a w ⟨he,hq⟩=>by subst he;exact hq) (fun ⟨_,_,e,_⟩=>by cases e)
 exact regW_any hm (plan_any (fun j o ho t ht=>(hs1 j o ho).1.1 t ht) h1 (fun e a w hq=>hq.1) (fun st' β φ a w sr hk=>⟨rfl,hQ st' β φ a w sr hk⟩) p _ _ h3 h2 h.drew.2 hq)
end
end Go.Abs
