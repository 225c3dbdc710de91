/- A region whose order is open, with calls that bring new objects. -/
import Derived.Test.YtcnddedeeplbcaaGreatAbsAny
namespace Go.Abs
set_option linter.unusedVariables false
set_option linter.unusedSimpArgs false

section
variable {P:Program} {B:Base} {N:Nat} {st st':St} {β:Nat -> Info} {φ:Nat -> List Nat} {a:Act} {w w':World}

theorem preE_env:∀ (l:List Oper) (vs:List AV) (xs:List (List AObj)) (j:Nat) (s1 s2:St),vs.length=l.length -> xs.length=l.length -> s1.env=s2.env -> (preE l vs xs j s1).env=(pre l vs j s2).env
 | [],vs,xs,j,s1,s2,_,_,h=>by cases vs <;> exact h
 | o :: l,[],xs,j,s1,s2,h,_,_=>by simp at h
 | o :: l,v :: vs,[],j,s1,s2,_,h,_=>by simp at h
 | o :: l,v :: vs,x :: xs,0,s1,s2,_,_,h=>h
 | o :: l,v :: vs,x :: xs,j + 1,s1,s2,h1,h2,h=>by
  refine preE_env l vs xs j _ _ (by simpa using h1) (by simpa using h2) ?_
  unfold St.putO
  cases o.dst with
  | none=>exact h
  | some d=>show (d,v) :: s1.env=(d,v) :: s2.env;rw [h]

def grow:List (List AObj) -> Nat -> St -> St
 | x :: xs,j + 1,st=>grow xs j (st.after [] x)
 | _,_,st=>st

theorem grow_env:∀ (xs:List (List AObj)) (j:Nat) (env:List (Nat × AV)) (st:St),grow xs j { st with env:=env }={ grow xs j st with env:=env }
 | [],j,env,st=>rfl
 | x :: xs,0,env,st=>rfl
 | x :: xs,j + 1,env,st=>grow_env xs j env (st.after [] x)

theorem preE_grow:∀ (l:List Oper) (vs:List AV) (xs:List (List AObj)) (j:Nat) (st:St),vs.length=l.length -> xs.length=l.length -> ∃ env,preE l vs xs j st={ grow xs j st with env:=env }
 | [],vs,xs,j,st,h1,h2=>by
  have:xs=[]:=List.eq_nil_of_length_eq_zero (by simpa using h2)
  subst this
  exact ⟨st.env,by cases vs <;> rfl⟩
 | o :: l,[],xs,j,st,h,_=>by simp at h
 | o :: l,v :: vs,[],j,st,_,h=>by simp at h
 | o :: l,v :: vs,x :: xs,0,st,_,_=>⟨st.env,rfl⟩
 | o :: l,v :: vs,x :: xs,j + 1,st,h1,h2=>by
  obtain ⟨env,h⟩:=preE_grow l vs xs j ((st.after [] x).putO o.dst (some v)) (by simpa using h1) (by simpa using h2)
  refine ⟨env,?_⟩
  show preE l vs xs j _=_
  rw [h]
  have:∃ e,(st.after [] x).putO o.dst (some v)={ st.after [] x with env:=e }:=by
   unfold St.putO
   cases o.dst with
   | none=>exact ⟨_,rfl⟩
   | some d=>exact ⟨_,rfl⟩
  obtain ⟨e,he⟩:=this
  rw [he,grow_env]
  rfl

theorem grow_succ:∀ (xs:List (List AObj)) (i:Nat) (st:St) (x:List AObj),xs[i]?=some x -> grow xs (i + 1) st=(grow xs i st).after [] x
 | [],i,st,x,h=>by simp at h
 | y :: xs,0,st,x,h=>by
  simp at h
  subst h
  show grow xs 0 _=_
  cases xs <;> rfl
 | y :: xs,i + 1,st,x,h=>grow_succ xs i (st.after [] y) x (by simpa using h)

theorem grow_same (xs:List (List AObj)) (st:St) {b i:Nat} (hbi:b <= i) (hi:i <= xs.length) (h:∀ k x,b <= k -> k < i -> xs[k]?=some x -> x=[]):grow xs i st=grow xs b st:=by
 induction i with
 | zero=>have:b=0:=(by omega);subst this;rfl
 | succ i ih =>
  by_cases e:b=i + 1
  ·subst e;rfl
  ·have hx:xs[i]?=some xs[i]:=List.getElem?_eq_getElem (by omega)
   rw [grow_succ xs i st _ hx,h i _ (by omega) (by omega) hx,after_nil]
   exact ih (by omega) (by omega) fun k x h1 h2=>h k x h1 (by omega)

theorem after_obj (st:St) (x:List AObj) {k:Nat} (hk:k < st.next):(st.after [] x).obj k=st.obj k:=by
 show (find ((idsOf [] st.next x.length).zip x ++ st.objs) k).getD .dead=(find st.objs k).getD .dead
 rw [find_zip_out]
 intro hm
 have:=(fresh_mem _ _ _).1 (by simpa [idsOf] using hm)
 omega

theorem after_dead {st:St} (h:∀ k,st.next <= k -> st.obj k=.dead) (x:List AObj):∀ k,(st.after [] x).next <= k -> (st.after [] x).obj k=.dead:=fun k hk=>by
 have hk':st.next + (x.length - 0) <= k:=hk
 show (find ((idsOf [] st.next x.length).zip x ++ st.objs) k).getD .dead=.dead
 rw [find_zip_out]
 ·exact h k (by omega)
 ·intro hm
  have:=(fresh_mem _ _ _).1 (by simpa [idsOf] using hm)
  omega

theorem grow_mono (xs:List (List AObj)) (st:St) {b i:Nat} (hbi:b <= i) (hi:i <= xs.length):(grow xs b st).next <= (grow xs i st).next /\ ∀ k,k < (grow xs b st).next -> (grow xs i st).obj k=(grow xs b st).obj k:=by
 induction i with
 | zero=>have:b=0:=(by omega);subst this;exact ⟨Nat.le_refl _,fun _ _=>rfl⟩
 | succ i ih =>
  by_cases e:b=i + 1
  ·subst e;exact ⟨Nat.le_refl _,fun _ _=>rfl⟩
  ·have hx:xs[i]?=some xs[i]:=List.getElem?_eq_getElem (by omega)
   obtain ⟨h1,h2⟩:=ih (by omega) (by omega)
   rw [grow_succ xs i st _ hx]
   refine ⟨Nat.le_trans h1 (by show _ <= (grow xs i st).next + _;omega),fun k hk=>?_⟩
   rw [after_obj _ _ (by omega)]
   exact h2 k hk

theorem grow_dead (xs:List (List AObj)):∀ (i:Nat) (st:St),(∀ k,st.next <= k -> st.obj k=.dead) -> ∀ k,(grow xs i st).next <= k -> (grow xs i st).obj k=.dead:=by
 induction xs with
 | nil=>intro i st h;exact h
 | cons x xs ih =>
  intro i st h
  cases i with
  | zero=>exact h
  | succ i=>exact ih i (st.after [] x) (after_dead h x)

theorem effOk_spec {ops:Array Oper} (h:effOk ops=true) {i j:Nat} {p o:Oper} (hp:ops[i]?=some p) (ho:ops[j]?=some o) (hij:i < j) (hcp:callV p.op=true) (hco:callV o.op=true) :
  ∃ k q,i <= k /\ k < j /\ ops[k]?=some q /\ callV q.op=true /\ ∃ e ∈ o.after,Region.binds .any e=true /\ e.on=k:=by
 unfold effOk at h
 have mem:∀ (j:Nat) (o:Oper),ops[j]?=some o -> (o,j) ∈ ops.toList.zipIdx:=fun j o hj=>by
  rw [List.mem_zipIdx_iff_getElem?]
  simpa using hj
 have h1:=List.all_eq_true.1 h _ (mem j o ho)
 simp only [hco,Bool.not_true,Bool.false_or] at h1
 have h2:=List.all_eq_true.1 h1 _ (mem i p hp)
 simp only [hcp,hij,decide_true,Bool.and_self,Bool.not_true,Bool.false_or] at h2
 obtain ⟨⟨q,k⟩,hqk,h3⟩:=List.any_eq_true.1 h2
 simp only [Bool.and_eq_true,decide_eq_true_eq] at h3
 obtain ⟨⟨⟨h5,h6⟩,h7⟩,h8⟩:=h3
 obtain ⟨m,hm,h4⟩:=Array.any_eq_true.1 h8
 simp only [Bool.and_eq_true] at h4
 exact ⟨k,q,h5,h6,by have:=List.mem_zipIdx_iff_getElem?.1 hqk;simpa using this,h7,o.after[m],Array.getElem_mem hm,h4.1,by simpa using h4.2⟩

def BringOk (ops:Array Oper) (n:Nat):Prop:=∀ (i j:Nat) (p o:Oper),j < n -> ops[i]?=some p -> ops[j]?=some o -> i < j -> bringV p.op=true -> bringV o.op=true -> ∀ listed:Array Bool,
 (∀ (j:Nat) (o:Oper),ops[j]?=some o -> listed.getD j true=true -> ∀ e ∈ o.after,Region.binds .any e=true -> listed.getD e.on true=true) -> (∀ e ∈ o.after,Region.binds .any e=true -> listed.getD e.on true=true) -> listed.getD i true=true

def BringOkB (ops:Array Oper) (n:Nat) (br:Nat -> Bool):Prop:=∀ (i j:Nat) (p o:Oper),j < n -> ops[i]?=some p -> ops[j]?=some o -> i < j -> br i=true -> br j=true -> ∀ listed:Array Bool,
 (∀ (j:Nat) (o:Oper),ops[j]?=some o -> listed.getD j true=true -> ∀ e ∈ o.after,Region.binds .any e=true -> listed.getD e.on true=true) -> (∀ e ∈ o.after,Region.binds .any e=true -> listed.getD e.on true=true) -> listed.getD i true=true
theorem BringOk.toB {ops:Array Oper} {n:Nat} (h:BringOk ops n):BringOkB ops n (brOf ops):=fun i j p o hj hp ho hij hbp hbo =>
 h i j p o hj hp ho hij (by unfold brOf at hbp;rw [hp] at hbp;exact hbp) (by unfold brOf at hbo;rw [ho] at hbo;exact hbo)
theorem bringOk_eff {ops:Array Oper} (h:effOk ops=true) {n:Nat} (hne:∀ (i:Nat) (p:Oper),i < n -> ops[i]?=some p -> effT p.op=false):BringOk ops n:=by
 have hcv:∀ (i:Nat) (p:Oper),i < n -> ops[i]?=some p -> bringV p.op=true -> callV p.op=true:=fun i p hi hp hb=>by
  have h1:=hne i p hi hp
  unfold bringV at hb
  cases hc:callV p.op with
  | true=>rfl
  | false =>
   rw [hc] at hb
   unfold litV at hb
   split at hb
   ·rename_i e
    rw [e] at h1
    cases h1
   ·cases hb
 intro i j p o hj hp ho hij hbp hbo listed hcl hedge
 have hcp:=hcv i p (by omega) hp hbp
 have key:∀ d j' o',j' - i=d -> i < j' -> j' <= j -> ops[j']?=some o' -> callV o'.op=true -> (∀ e ∈ o'.after,Region.binds .any e=true -> listed.getD e.on true=true) -> listed.getD i true=true:=fun d=>by
  induction d using Nat.strongRecOn with
  | _ d ih =>
   intro j' o' hd hij' hj' ho' hco hed
   obtain ⟨k,q,h1,h2,h3,h4,e,hem,hbn,hon⟩:=effOk_spec h hp ho' hij' hcp hco
   have hl:=hed e hem hbn
   rw [hon] at hl
   by_cases hk:k=i
   ·subst hk;exact hl
   ·exact ih (k - i) (by omega) k q rfl (by omega) (by omega) h3 h4 (hcl k q h3 hl)
 exact key (j - i) j o rfl hij (Nat.le_refl _) ho (hcv j o hj ho hbo) hedge

theorem opS_agree {sA sE:St} (hob:Agr sA sE) {o:Oper} (hp:pureOp o.op=true) (hx:∀ x ∈ o.op.operands,opA sA x=opA sE x)
  (low:∀ x ∈ o.op.operands,∀ p v,opA sA x=some (p,v) -> p -> AVB sA v) {q:Prop} {r:Option AV} {s:St} (h:opS P sE o=some (q,r,s)) (hq:q):∃ s2,opS P sA o=some (q,r,s2):=by
 unfold opS at h ⊢
 split at h <;> rename_i eo <;> first | (rw [eo] at hp hx low;simp only [pureOp] at hp) | (cases h;done)
 all_goals try (cases hp;done)
 all_goals try simp only [eo]
 ·exact un_agree (hx _ (by simp [Op.operands])) (low _ (by simp [Op.operands])) h hq fun v q r s _ e _=>by cases e;exact ⟨_,rfl⟩
 ·exact un_agree (hx _ (by simp [Op.operands])) (low _ (by simp [Op.operands])) h hq fun v q r s _ e _=>by cases e;exact ⟨_,rfl⟩
 ·unfold pickS at h ⊢
  rw [hx _ (by simp [Op.operands]),hx _ (by simp [Op.operands]),hx _ (by simp [Op.operands])]
  split at h
  ·cases h;exact ⟨_,rfl⟩
  ·cases h
 ·rename_i t parts
  refine ex_of_map (s2:=sA) (buildS_same fun p hp=>hx p.2 ?_) h
  simp only [Op.operands]
  exact List.mem_toArray.2 (List.mem_map.2 ⟨p,hp,rfl⟩)
 ·exact un_agree (hx _ (by simp [Op.operands])) (low _ (by simp [Op.operands])) h hq fun v q r s hv e _=>load_agree hob hv e
 ·exact un_agree (hx _ (by simp [Op.operands])) (low _ (by simp [Op.operands])) h hq fun v q r s _ e hq=>un_agree (hx _ (by simp [Op.operands])) (low _ (by simp [Op.operands])) e hq fun v q r s _ e _=>by
   refine ex_of_map (s2:=sA) ?_ e
   unfold binS
   split
   ·split <;> rfl
   ·split
    ·split <;> rfl
    ·split <;> rfl
    ·rfl
   ·rfl
 ·exact un_agree (hx _ (by simp [Op.operands])) (low _ (by simp [Op.operands])) h hq fun v q r s _ e _=>by
   refine ex_of_map (s2:=sA) ?_ e
   unfold unS
   split
   ·split <;> rfl
   ·split <;> rfl
   ·rfl
 ·exact un_agree (hx _ (by simp [Op.operands])) (low _ (by simp [Op.operands])) h hq fun v q r s hv e _=>conv_agree hob hv e
 ·rename_i f first caps
  split at h
  ·rename_i hf
   rw [if_pos hf]
   rw [capS_same (s1:=sA) (s2:=sE) fun x hm=>hx x (by simp [Op.operands];exact .inr (Array.mem_toList_iff.1 hm))]
   rw [Option.map_eq_some_iff] at h
   obtain ⟨y,h1,h2⟩:=h
   cases h2
   rw [h1]
   exact ⟨_,rfl⟩
  ·cases h
 ·exact un_agree (hx _ (by simp [Op.operands])) (low _ (by simp [Op.operands])) h hq fun v q r s hv e hq =>
   un?_agree (fun y hy=>hx _ (by subst hy;simp [Op.operands])) (fun y hy=>low _ (by subst hy;simp [Op.operands])) e hq fun v q r s e hq =>
   un?_agree (fun y hy=>hx _ (by subst hy;simp [Op.operands])) (fun y hy=>low _ (by subst hy;simp [Op.operands])) e hq fun v q r s e hq =>
   un?_agree (fun y hy=>hx _ (by subst hy;simp [Op.operands])) (fun y hy=>low _ (by subst hy;simp [Op.operands])) e hq fun v q r s e hq=>slice_agree hob hv e
 ·exact un_agree (hx _ (by simp [Op.operands])) (low _ (by simp [Op.operands])) h hq fun v q r s hv e _=>faddr_agree hob hv e
 ·exact un_agree (hx _ (by simp [Op.operands])) (low _ (by simp [Op.operands])) h hq fun v q r s hv e _=>by
   refine ex_of_map (s2:=sA) ?_ e
   unfold fieldS
   split
   ·split <;> rfl
   ·rfl
 ·exact un_agree (hx _ (by simp [Op.operands])) (low _ (by simp [Op.operands])) h hq fun v q r s hv e hq=>un_agree (hx _ (by simp [Op.operands])) (low _ (by simp [Op.operands])) e hq fun v q r s _ e _=>iaddr_agree hob hv e
 ·exact un_agree (hx _ (by simp [Op.operands])) (low _ (by simp [Op.operands])) h hq fun v q r s _ e hq=>un_agree (hx _ (by simp [Op.operands])) (low _ (by simp [Op.operands])) e hq fun v q r s _ e _=>by
   refine ex_of_map (s2:=sA) ?_ e
   unfold indexS
   split
   ·split <;> rfl
   ·split
    ·split <;> rfl
    ·rfl
   ·rfl
 ·exact un_agree (hx _ (by simp [Op.operands])) (low _ (by simp [Op.operands])) h hq fun v q r s _ e _=>by
   refine ex_of_map (s2:=sA) ?_ e
   unfold extractS
   split
   ·split <;> rfl
   ·rfl
 ·exact un_agree (hx _ (by simp [Op.operands])) (low _ (by simp [Op.operands])) h hq fun v q r s hv e _=>by
   unfold nilS at e ⊢
   split at e
   ·rename_i o i j
    have hk:sA.kn o:=hv
    split at e
    ·rename_i cells eo
     have:=ob_eq hob hk (by rw [eo];simp)
     simp only [this,eo]
     cases e
     exact ⟨_,rfl⟩
    ·rename_i sz sep rows eo
     have:=ob_eq hob hk (by rw [eo];simp)
     simp only [this,eo]
     cases e
     exact ⟨_,rfl⟩
    ·cases e
   ·cases e
 ·rename_i b args ts
  have hx':∀ x ∈ args,opA sA x=opA sE x:=fun x hm=>hx x (by simp [Op.operands,Call.operands];exact hm)
  have low':∀ x ∈ args,∀ p v,opA sA x=some (p,v) -> p -> AVB sA v:=fun x hm=>low x (by simp [Op.operands,Call.operands];exact hm)
  have hmm:∀ (m:Bool) (u v:AV),minmaxS sA m u v=(minmaxS sE m u v).map (reSt sA):=fun m u v=>by
   unfold minmaxS
   split <;> rfl
  unfold builtinS at h ⊢
  split at h
  ·rename_i x hxl
   have hm:x ∈ args:=by rw [<- Array.mem_toList_iff,hxl];simp
   split at h
   ·try simp only
    refine un_agree (hx' x hm) (low' x hm) h hq fun v q r s hv e _=>?_
    split at e
    ·split at e
     ·rename_i hc
      simp only [hc,if_true]
      exact len_agree hob hv e
     ·cases e
    ·split at e
     ·rename_i hc
      simp only [hc,if_true]
      exact len_agree hob hv e
     ·cases e
   ·cases hp
   ·cases hp
   ·cases h
  ·rename_i x y hxl
   have hm:x ∈ args:=by rw [<- Array.mem_toList_iff,hxl];simp
   have hm2:y ∈ args:=by rw [<- Array.mem_toList_iff,hxl];simp
   split at h
   ·cases hp
   ·cases hp
   ·exact un_agree (hx' x hm) (low' x hm) h hq fun v q r s hv e hq=>un_agree (hx' y hm2) (low' y hm2) e hq fun v q r s _ e _=>ex_of_map (hmm _ _ _) e
   ·exact un_agree (hx' x hm) (low' x hm) h hq fun v q r s hv e hq=>un_agree (hx' y hm2) (low' y hm2) e hq fun v q r s _ e _=>ex_of_map (hmm _ _ _) e
   ·cases h
  ·cases h

theorem stepA_wp {sA sE:St} (h:SR B N sA β φ a w) (hob:Agr sA sE) {ops:Array Oper} {o:Oper} {v:AV} (hnc:callV o.op=false)
  (hag:∀ t ∈ Oper.looks ops o,find sA.env t=find sE.env t) (hs:stepD P ops sE o (·=v)) {next:Act -> World -> Prop} {Q:Exit -> Act -> World -> Prop}
  (hnext:∀ β' φ' w' x,SR B N sA β' φ' a w' -> AVRel (sA.ctx w' β' φ') v x -> next (a.put o.dst x) w') :
  if Region.wanted o (yielded ops a.tmps) then o.wp P a w next Q else next (a.put o.dst undef) w:=by
 have h1:∀ x ∈ o.op.operands,opA sA x=opA sE x:=fun x hx=>by
  cases x with
  | tmp t =>
   have:=hag t (by
    unfold Oper.looks
    refine List.mem_append_left _ (List.mem_filterMap.2 ⟨.tmp t,Array.mem_toList_iff.2 hx,rfl⟩))
   simp only [opA,this]
  | const c=>rfl
  | func f=>rfl
  | global g=>rfl
 have low:∀ x ∈ o.op.operands,∀ p v,opA sA x=some (p,v) -> p -> AVB sA v:=fun x _ p v hx hp=>AVRel.low (opA_sound h hx hp)
 have nocall:∀ {g:Bool} {K:AV -> Prop},¬ condCall P sE o g K:=fun {g K} hc=>by
  unfold condCall callee at hc
  split at hc
  ·rename_i e
   split at e
   ·rename_i eo
    rw [eo] at hnc
    cases hnc
   ·cases e
  ·exact hc
 have pure:∀ {q:Prop} {r:AV} {s:St},pureOp o.op=true -> opS P sE o=some (q,some r,s) -> q -> (∀ β' φ' w' x,SR B N sA β' φ' a w' -> AVRel (sA.ctx w' β' φ') r x -> next (a.put o.dst x) w') -> o.wp P a w next Q:=fun {q r s} hp eo hq hn=>by
  obtain ⟨s2,eo2⟩:=opS_agree hob hp h1 low eo hq
  have hst:=opS_pure hp eo2
  subst hst
  obtain ⟨β',φ',w',le,sr,he,hres⟩:=opS_sound h eo2 hq
  rcases hres with ⟨r',z,hr',hrun,hv⟩ | ⟨hr',_⟩
  ·cases hr'
   unfold Oper.wp
   rw [hrun]
   exact hn β' φ' w' z sr hv
  ·cases hr'
 unfold stepD at hs
 split at hs
 ·rename_i eg
  have hw:Region.wanted o (yielded ops a.tmps)=true:=by unfold Region.wanted;rw [eg]
  rw [hw]
  simp only [if_true]
  split at hs
  ·rename_i hp
   split at hs
   ·rename_i q r s eo
    obtain ⟨hq,rfl⟩:=hs
    exact pure hp eo hq hnext
   ·exact hs.elim
  ·exact (nocall hs).elim
 ·rename_i j want eg
  split at hs
  ·exact hs.elim
  ·rename_i g ega
   have ega':guardA ops sA j want=some g:=by
    rw [<- ega]
    unfold guardA
    cases e:(ops[j]?).bind (·.dst) with
    | none=>rfl
    | some d =>
     simp only
     rw [hag d (by
      unfold Oper.looks
      rw [eg]
      refine List.mem_append_right _ ?_
      simp only [e]
      simp)]
   have hw:=guardA_sound h eg ega'
   rw [hw]
   split at hs
   ·rename_i hp
    split at hs
    ·rename_i q r s eo
     obtain ⟨hpv,hq,rfl⟩:=hs
     cases g with
     | true =>
      simp only [if_true]
      exact pure hp eo (hq rfl) fun β' φ' w' x sr hv=>hnext β' φ' w' x sr ⟨fun _=>AV.pv hpv hv,fun hf=>by cases hf⟩
     | false =>
      simp only [Bool.false_eq_true,if_false]
      exact hnext β φ w undef h ⟨fun hf=>(by cases hf),fun _=>rfl⟩
    ·exact hs.elim
   ·exact (nocall hs).elim

theorem after_alike {s1 s2:St} (hn:s1.next=s2.next) (x:List AObj) {k:Nat} (h:s1.obj k=s2.obj k):(s1.after [] x).obj k=(s2.after [] x).obj k:=by
 show (find ((idsOf [] s1.next x.length).zip x ++ s1.objs) k).getD .dead=(find ((idsOf [] s2.next x.length).zip x ++ s2.objs) k).getD .dead
 rw [hn]
 by_cases hm:k ∈ idsOf [] s2.next x.length
 ·have hl:(idsOf [] s2.next x.length).length=x.length:=idsOf_length (by simp)
  have hk:(idsOf [] s2.next x.length).idxOf k < x.length:=Nat.lt_of_lt_of_eq (List.idxOf_lt_length_of_mem hm) hl
  have hnd:(idsOf [] s2.next x.length).Nodup:=idsOf_nodup (os:=[]) (st:=s2) (by simp) (by simp) _
  have hx:=List.getElem?_eq_getElem hk
  have hi:(idsOf [] s2.next x.length)[(idsOf [] s2.next x.length).idxOf k]?=some k:=by rw [List.getElem?_eq_getElem (by rw [hl];exact hk),List.getElem_idxOf]
  rw [find_zip_in _ _ _ _ _ hnd hx k hi,find_zip_in _ _ _ _ _ hnd hx k hi]
 ·rw [find_zip_out _ _ _ _ hm,find_zip_out _ _ _ _ hm]
  exact h

def DrawnE (br:Nat -> Bool) (B:Base) (N:Nat) (st:St) (ops:Array Oper) (vs:List AV) (xs:List (List AObj)) (as:List (Option Nat)) (listed:Array Bool) (a:Act) (w:World):Prop :=
 ∃ β φ s b,b <= ops.size /\ SR B N s β φ a w /\ s.next=(grow xs b st).next /\
  (∀ (j id:Nat),as[j]?=some (some id) -> listed.getD j false=false -> s.obj id=.hole) /\
  (∀ k,(∀ j:Nat,as[j]?=some (some k) -> listed.getD j false=true) -> s.obj k=(grow xs b st).obj k) /\
  (∀ (j:Nat) (o:Oper),ops[j]?=some o -> br j=true -> (listed.getD j true=true ↔ j < b)) /\
  (∀ (j:Nat) (o:Oper) (d:Nat) (v:AV),ops[j]?=some o -> o.dst=some d -> vs[j]?=some v -> listed.getD j false=true -> find s.env d=some v) /\
  (∀ t,(∀ (j:Nat) (o:Oper),ops[j]?=some o -> listed.getD j false=true -> o.dst ≠ some t) -> find s.env t=find st.env t)

theorem seqOk_spec {ops:Array Oper} {m:Nat} (h:seqOk ops m=true) {i j:Nat} (hm:m <= j) (hj:j < ops.size) (hi:i < j):∃ k p,i < k /\ k <= j /\ ops[k]?=some p /\ ∃ e ∈ p.after,Region.binds .any e=true /\ e.on=i:=by
 unfold seqOk at h
 have h1:=List.all_eq_true.1 h j (List.mem_range.2 hj)
 simp only [show decide (j < m)=false from by simpa using hm,Bool.false_or] at h1
 have h2:=List.all_eq_true.1 h1 i (List.mem_range.2 hi)
 obtain ⟨⟨p,k⟩,hpk,h3⟩:=List.any_eq_true.1 h2
 simp only [Bool.and_eq_true,decide_eq_true_eq] at h3
 obtain ⟨⟨h4,h5⟩,h6⟩:=h3
 obtain ⟨m',hm',h7⟩:=Array.any_eq_true.1 h6
 simp only [Bool.and_eq_true] at h7
 exact ⟨k,p,h4,h5,by have:=List.mem_zipIdx_iff_getElem?.1 hpk;simpa using this,p.after[m'],Array.getElem_mem hm',h7.1,by simpa using h7.2⟩

theorem seq_wp {ops:Array Oper} {Q:Exit -> Act -> World -> Prop} {K:St -> Prop} {m:Nat} (hseq:seqOk ops m=true) (hdN:∀ (j:Nat) (o:Oper) (d:Nat),ops[j]?=some o -> o.dst=some d -> d < N)
  (hback:∀ (j:Nat) (o:Oper),ops[j]?=some o -> ∀ e ∈ o.after,Region.binds .any e=true -> e.on < j)
  (hQ:∀ st' β φ a w,SR B N st' β φ a w -> K st' -> Q .normal a w):∀ (fuel j:Nat) (listed:Array Bool),m <= j -> j <= ops.size -> listed.size=ops.size -> cnt listed ops.size=fuel -> (∀ k,k < ops.size -> (listed.getD k true=true ↔ k < j)) ->
    ∀ {s:St} {β:Nat -> Info} {φ:Nat -> List Nat} {a:Act} {w:World},SR B N s β φ a w -> regQ P ops (ops.toList.drop j) s K -> wpAny P .any ops Q fuel listed a w:=by
 have hready:∀ listed:Array Bool,listed.size=ops.size -> Region.ready .any ops listed=[] -> ∀ k,k < ops.size -> listed.getD k true=true:=fun listed hsz hr k=>by
  induction k using Nat.strongRecOn with
  | _ k ih =>
   intro hk
   apply Classical.byContradiction
   intro hn
   have hn':listed.getD k true=false:=by simpa using hn
   have hmem:k ∈ Region.ready .any ops listed:=mem_ready.2 ⟨hn',ops[k],Array.getElem?_eq_getElem hk,fun e he hb=>by
    have hlt:=hback k ops[k] (Array.getElem?_eq_getElem hk) e he hb
    have:=ih e.on hlt (by omega)
    rw [Array.getD_eq_getD_getElem?,Array.getElem?_eq_getElem (by omega)] at this ⊢
    exact this⟩
   rw [hr] at hmem
   cases hmem
 intro fuel
 induction fuel with
 | zero =>
  intro j listed hmj hj hsz hc hl s β φ a w sr hq
  have hall:=cnt_zero hc
  have hjn:j=ops.size:=by
   apply Classical.byContradiction
   intro hn
   have:=(hl j (by omega)).1 (hall j (by omega))
   omega
  subst hjn
  rw [List.drop_of_length_le (by simp)] at hq
  refine ⟨List.eq_nil_iff_forall_not_mem.2 fun k hk=>?_,hQ _ _ _ _ _ sr hq⟩
  obtain ⟨h1,o,ho,_⟩:=mem_ready.1 hk
  rw [hall k (Array.getElem?_eq_some_iff.1 ho).1] at h1
  cases h1
 | succ fuel ih =>
  intro j listed hmj hj hsz hc hl s β φ a w sr hq
  refine ⟨fun hr=>?_,fun i hi=>?_⟩
  ·have hjn:j=ops.size:=by
    apply Classical.byContradiction
    intro hn
    have:=(hl j (by omega)).1 (hready listed hsz hr j (by omega))
    omega
   subst hjn
   rw [List.drop_of_length_le (by simp)] at hq
   exact hQ _ _ _ _ _ sr hq
  ·obtain ⟨hun,o,ho,hedge⟩:=mem_ready.1 hi
   have hin:i < ops.size:=(Array.getElem?_eq_some_iff.1 ho).1
   have hij:j <= i:=by
    apply Classical.byContradiction
    intro hn
    rw [(hl i hin).2 (by omega)] at hun
    cases hun
   have hi_eq:i=j:=by
    apply Classical.byContradiction
    intro hn
    obtain ⟨k,p,h1,h2,hp,e,hem,hb,hon⟩:=seqOk_spec hseq (i:=i - 1) (j:=i) (by omega) hin (by omega)
    have hk:k=i:=by omega
    subst hk
    rw [ho] at hp
    cases hp
    have:=hedge e hem hb
    rw [hon,getD_tf hsz (by omega) false true] at this
    have:=(hl (k - 1) (by omega)).1 this
    omega
   subst hi_eq
   have hdrop:ops.toList.drop i=o :: ops.toList.drop (i + 1):=by
    rw [List.drop_eq_getElem_cons (by simpa using hin)]
    congr 1
    have h1:ops.toList[i]?=some o:=by simpa using ho
    rw [List.getElem?_eq_getElem (by simpa using hin)] at h1
    exact Option.some.inj h1
   rw [hdrop] at hq
   have hwp:=stepQ_wp (Q:=Q) (next:=wpAny P .any ops Q fuel (listed.setIfInBounds i true)) sr (hdN i o · ho) hq (fun β' φ' w' st' x sr' hK=>by
    refine ih (i + 1) (listed.setIfInBounds i true) (by omega) (by omega) (by simpa using hsz) (by have:=cnt_set listed i hun ops.size hin;omega) (fun k hk=>?_) sr' hK
    by_cases e:k=i
    ·subst e
     rw [Array.getD_eq_getD_getElem?,Array.getElem?_setIfInBounds_self]
     simp [hsz,hin]
    ·rw [getD_set_ne true (Ne.symm e),hl k hk]
     omega)
   unfold wpOp
   rw [ho]
   simp only
   split at hwp
   ·rename_i hw
    rw [if_pos hw]
    exact .inl hwp
   ·rename_i hw
    rw [if_neg hw]
    exact hwp

theorem bringV_call {o:Op} (h:bringV o=false):callV o=false:=by
 unfold bringV at h
 cases hc:callV o with
 | false=>rfl
 | true=>rw [hc] at h;cases h

theorem stepD_nolit {ops:Array Oper} {o:Oper} {K:AV -> Prop} (h:(false || litV o.op)=true) (hs:stepD P ops st o K):False:=by
 have h:litV o.op=true:=by simpa using h
 unfold litV at h
 split at h
 ·rename_i t len parts e
  have hp:pureOp o.op=false:=by rw [e];rfl
  have hc:callee st o=none:=by unfold callee;rw [e]
  unfold stepD at hs
  split at hs
  ·rw [hp] at hs
   simp only [Bool.false_eq_true,if_false] at hs
   unfold condCall at hs
   rw [hc] at hs
   exact hs
  ·split at hs
   ·exact hs
   ·rw [hp] at hs
    simp only [Bool.false_eq_true,if_false] at hs
    unfold condCall at hs
    rw [hc] at hs
    exact hs
 ·cases h

theorem fst_dst {fl:Bool} {ops:Array Oper} (hok:drawOk ops N=true) {l' l2:List Oper} (hl:ops.toList=l' ++ l2) (hne:∀ o ∈ l',fstOk fl o):∀ (j:Nat) (o:Oper),l'[j]?=some o -> ∃ d,o.dst=some d /\ d < N:=fun j o ho=>by
 have hj:j < l'.length:=(List.getElem?_eq_some_iff.1 ho).1
 have ho':ops[j]?=some o:=by
  rw [<- Array.getElem?_toList,hl,List.getElem?_append_left hj]
  exact ho
 cases fl with
 | false =>
  refine dst_of hok (n:=l'.length) (fun i p hi hp=>?_) hj ho'
  rw [<- Array.getElem?_toList,hl,List.getElem?_append_left hi] at hp
  exact hne p (List.mem_of_getElem? hp)
 | true =>
  obtain ⟨d,hd⟩:=hne o (List.mem_of_getElem? ho)
  exact ⟨d,hd,((drawOk_spec hok).1 j o ho').1.1 d hd⟩

theorem fst_bring {ops:Array Oper} (h:effOk ops=true):∀ l' l2,ops.toList=l' ++ l2 -> (∀ o ∈ l',fstOk false o) -> BringOk ops l'.length:=fun l' l2 hl hne=>bringOk_eff h fun i p hi hp=>by
 rw [<- Array.getElem?_toList,hl,List.getElem?_append_left hi] at hp
 exact hne p (List.mem_of_getElem? hp)

theorem anyB_wp {br:Nat -> Bool} {ops:Array Oper} {Q:Exit -> Act -> World -> Prop} {K:St -> Prop} (hok:drawOk ops N=true) (hdead:∀ k,st.next <= k -> st.obj k=.dead) {l' l2:List Oper} (hl:ops.toList=l' ++ l2) (heff:BringOkB ops l'.length br) (hdst0:∀ (j:Nat) (o:Oper),l'[j]?=some o -> ∃ d,o.dst=some d /\ d < N) (hseq:l2 ≠ [] -> seqOk ops (ops.size - l2.length)=true) {vs:List AV} {xs:List (List AObj)} {as:List (Option Nat)} (hvs:vs.length=l'.length) (hxs:xs.length=l'.length) (has:as.length=l'.length) (hids:∀ (j id:Nat),as[j]?=some (some id) -> B.n <= id /\ id < st.next) (hinj:∀ (i j id:Nat),as[i]?=some (some id) -> as[j]?=some (some id) -> i=j)
  (hst:∀ (j:Nat) (o:Oper) (v:AV) (x:List AObj) (al:Option Nat),l'[j]?=some o -> vs[j]?=some v -> xs[j]?=some x -> as[j]?=some al -> StepB P ops (preE l' vs xs j st) o v x al (br j)) {st2:St} (hst2:Step0 (preE l' vs xs l'.length st) st2) (hK:regQ P ops l2 st2 K)
  (hQ:∀ st' β φ a w,SR B N st' β φ a w -> K st' -> Q .normal a w):∀ (fuel:Nat) (listed:Array Bool),listed.size=ops.size -> cnt listed ops.size=fuel -> (∀ (j:Nat) (o:Oper),ops[j]?=some o -> listed.getD j true=true -> ∀ e ∈ o.after,Region.binds .any e=true -> listed.getD e.on true=true) -> (∀ k,l'.length <= k -> k < ops.size -> listed.getD k true=false) -> ∀ {a:Act} {w:World},DrawnE br B N st l'.toArray vs xs as listed a w -> wpAny P .any ops Q fuel listed a w:=by
 obtain ⟨hs1',hs2'⟩:=drawOk_spec hok
 have hsize:ops.size=l'.length + l2.length:=by rw [<- Array.length_toList,hl];simp
 have hin':∀ (i:Nat) (o:Oper),l'[i]?=some o -> ops[i]?=some o /\ i < l'.length:=fun i o hi=>by
  have hi':=(List.getElem?_eq_some_iff.1 hi).1
  refine ⟨?_,hi'⟩
  rw [<- Array.getElem?_toList,hl,List.getElem?_append_left hi']
  exact hi
 have hof:∀ (i:Nat) (o:Oper),i < l'.length -> ops[i]?=some o -> l'[i]?=some o:=fun i o hi ho=>by
  rw [<- Array.getElem?_toList,hl,List.getElem?_append_left hi] at ho
  exact ho
 have hs1:∀ (j:Nat) (o:Oper),l'[j]?=some o -> (∃ d,o.dst=some d /\ d < N) /\ (∀ e ∈ o.after,Region.binds .any e=true -> e.on < j):=fun j o ho =>
  ⟨hdst0 j o ho,(hs1' j o (hin' j o ho).1).2⟩
 have hs2:∀ (i j:Nat) (p o:Oper),l'[i]?=some p -> l'[j]?=some o -> (p.dst=o.dst -> i=j) /\ ∀ d,p.dst=some d -> d ∈ Oper.looks ops o -> (∃ e ∈ o.after,Region.binds .any e=true /\ e.on=i) \/ (j < i /\ ∃ e ∈ p.after,Region.binds .any e=true /\ e.on=j):=fun i j p o hp ho =>
  ⟨fun he=>by obtain ⟨⟨d,hd,_⟩,_⟩:=hs1 i p hp;exact uniq_of hok (hin' i p hp).1 (hin' j o ho).1 hd he,(hs2' i j p o (hin' i p hp).1 (hin' j o ho).1).2⟩
 have hdst:∀ (i:Nat) (o:Oper),l'[i]?=some o -> ∃ d,o.dst=some d:=fun i o hi=>by
  obtain ⟨⟨d,hd,_⟩,_⟩:=hs1 i o hi
  exact ⟨d,hd⟩
 have huniq:∀ (i i':Nat) (o o':Oper),l'[i]?=some o -> l'[i']?=some o' -> o.dst=o'.dst -> i=i':=fun i i' o o' h1 h2 he=>(hs2 i i' o o' h1 h2).1 he
 have hfp:=fun j hj=>find_pre l' vs j st hvs hdst huniq hj
 have hnocall:∀ (j:Nat) (o:Oper) (x:List AObj),l'[j]?=some o -> xs[j]?=some x -> br j=false -> x=[]:=fun j o x ho hx hc=>by
  have hj:j < l'.length:=(hin' j o ho).2
  have hjv:vs[j]?=some (vs[j]'(by rw [hvs];omega)):=List.getElem?_eq_getElem _
  have hja:as[j]?=some (as[j]'(by rw [has];omega)):=List.getElem?_eq_getElem _
  rcases hst j o _ x _ ho hjv hx hja with ⟨_,h1,_⟩ | ⟨_,h1,_⟩ | ⟨_,_,_,h1,_⟩
  ·exact h1
  ·rw [hc] at h1;cases h1
  ·exact h1
 have hready:∀ listed:Array Bool,listed.size=ops.size -> Region.ready .any ops listed=[] -> ∀ k,k < ops.size -> listed.getD k true=true:=fun listed hsz hr k=>by
  induction k using Nat.strongRecOn with
  | _ k ih =>
   intro hk
   apply Classical.byContradiction
   intro hn
   have hn':listed.getD k true=false:=by simpa using hn
   have hmem:k ∈ Region.ready .any ops listed:=mem_ready.2 ⟨hn',ops[k],Array.getElem?_eq_getElem hk,fun e he hb=>by
    have hlt:=(hs1' k ops[k] (Array.getElem?_eq_getElem hk)).2 e he hb
    have:=ih e.on hlt (by omega)
    rw [Array.getD_eq_getD_getElem?,Array.getElem?_eq_getElem (by omega)] at this ⊢
    exact this⟩
   rw [hr] at hmem
   cases hmem
 have hall:∀ (listed:Array Bool) {a:Act} {w:World},listed.size=ops.size -> (∀ k,k < l'.length -> listed.getD k true=true) -> DrawnE br B N st l'.toArray vs xs as listed a w -> ∃ β φ,SR B N (preE l' vs xs l'.length st) β φ a w:=fun listed a w hsz hll hD=>by
  obtain ⟨β,φ,s,b,hb,sr,hsn,hso1,hso2,hc,d1,d2⟩:=hD
  simp only [List.size_toArray,List.getElem?_toArray] at hb hc d1 d2
  obtain ⟨env',he⟩:=preE_grow l' vs xs l'.length st hvs hxs
  have henv:env'=(pre l' vs l'.length st).env:=by
   rw [<- preE_env l' vs xs l'.length st st hvs hxs rfl,he]
  have hgs:grow xs l'.length st=grow xs b st:=grow_same xs st (by omega) (by omega) fun k x h1 h2 hx=>by
   cases hcv:br k with
   | false=>exact hnocall k _ x (List.getElem?_eq_getElem h2) hx hcv
   | true =>
    have:=(hc k _ (List.getElem?_eq_getElem h2) hcv).1 (hll k h2)
    omega
  rw [he,hgs]
  have hso:∀ k,s.obj k=(grow xs b st).obj k:=fun k=>hso2 k fun j hj=>by
   have hjl:j < l'.length:=by have:=(List.getElem?_eq_some_iff.1 hj).1;omega
   rw [getD_tf hsz (by omega) false true]
   exact hll j hjl
  refine ⟨β,φ,SR.alike (st:={ s with env:=env' }) (sr.forget env' fun t v hv=>?_) rfl hsn.symm fun k=>(hso k).symm⟩
  obtain ⟨f1,f2⟩:=hfp l'.length (Nat.le_refl _)
  rw [<- henv] at f1 f2
  by_cases hex:∃ (j:Nat) (o:Oper),l'[j]?=some o /\ o.dst=some t
  ·obtain ⟨j,o,ho,hd⟩:=hex
   have hj:j < l'.length:=(hin' j o ho).2
   have hjv:vs[j]?=some (vs[j]'(by rw [hvs];exact hj)):=List.getElem?_eq_getElem _
   have h1:=f1 j o t _ hj ho hd hjv
   have h2:=d1 j o t _ ho hd hjv (by rw [getD_tf hsz (by omega) false true];exact hll j hj)
   have hv':find env' t=some v:=hv
   rw [h1] at hv'
   cases hv'
   exact h2
  ·have hno:∀ (j:Nat) (o:Oper),l'[j]?=some o -> o.dst ≠ some t:=fun j o ho hd=>hex ⟨j,o,ho,hd⟩
   have h1:=f2 t (fun i o _ ho=>hno i o ho)
   have hv':find env' t=some v:=hv
   rw [h1] at hv'
   rw [<- d2 t (fun j o ho _=>hno j o ho)] at hv'
   exact hv'
 have htail:∀ (fuel:Nat) (listed:Array Bool),listed.size=ops.size -> cnt listed ops.size=fuel -> (∀ k,l'.length <= k -> k < ops.size -> listed.getD k true=false) -> (∀ k,k < l'.length -> listed.getD k true=true) -> ∀ {a:Act} {w:World},DrawnE br B N st l'.toArray vs xs as listed a w -> wpAny P .any ops Q fuel listed a w:=fun fuel listed hsz hc hno hll a w hD=>by
  obtain ⟨β0,φ0,sr0⟩:=hall listed hsz hll hD
  obtain ⟨β,φ,sr⟩:=hst2 _ _ _ _ _ _ sr0
  have hdN:∀ (j:Nat) (o:Oper) (d:Nat),ops[j]?=some o -> o.dst=some d -> d < N:=fun j o d ho hd=>(hs1' j o ho).1.1 d hd
  have hm:seqOk ops (ops.size - l2.length)=true \/ l2=[]:=by
   by_cases h2:l2=[]
   ·exact .inr h2
   ·exact .inl (hseq h2)
  have hd2:ops.toList.drop l'.length=l2:=by rw [hl,List.drop_left]
  have hk:∀ k,k < ops.size -> (listed.getD k true=true ↔ k < l'.length):=fun k hk=>by
   constructor
   ·intro h1
    apply Classical.byContradiction
    intro hn
    rw [hno k (by omega) hk] at h1
    cases h1
   ·exact hll k
  rcases hm with hm | hm
  ·exact seq_wp hm hdN (fun j o ho=>(hs1' j o ho).2) hQ fuel l'.length listed (by omega) (by omega) hsz hc hk sr (by rw [hd2];exact hK)
  ·have hz:seqOk ops ops.size=true:=by
    unfold seqOk
    rw [List.all_eq_true]
    intro x hx
    simp [List.mem_range.1 hx]
   have:ops.size=l'.length:=by rw [hsize,hm];rfl
   exact seq_wp hz hdN (fun j o ho=>(hs1' j o ho).2) hQ fuel l'.length listed (by omega) (by omega) hsz hc hk sr (by rw [hd2];exact hK)
 intro fuel
 induction fuel with
 | zero =>
  intro listed hsz hc hcl hno a w hD
  exact htail 0 listed hsz hc hno (fun k hk=>cnt_zero hc k (by omega)) hD
 | succ fuel ih =>
  intro listed hsz hc hcl hno a w hD
  by_cases hll:∀ k,k < l'.length -> listed.getD k true=true
  ·exact htail _ listed hsz hc hno hll hD
  refine ⟨fun hr=>absurd (fun k hk=>hready listed hsz hr k (by omega)) hll,fun i hi=>?_⟩
  obtain ⟨hun,o,hoo,hedge⟩:=mem_ready.1 hi
  have hin:i < ops.size:=(Array.getElem?_eq_some_iff.1 hoo).1
  have hedge':∀ e ∈ o.after,Region.binds .any e=true -> listed.getD e.on true=true:=fun e he hb=>by
   have:=hedge e he hb
   rw [Array.getD_eq_getD_getElem?] at this ⊢
   cases hx:listed[e.on]? with
   | none=>rfl
   | some x=>rw [hx] at this;exact this
  have hil:i < l'.length:=by
   apply Classical.byContradiction
   intro hn
   refine hll fun k hk=>?_
   have hne2:l2 ≠ []:=fun h2=>by rw [h2] at hsize;simp at hsize;omega
   have hothers:∀ q k,i - k=q -> k < i -> listed.getD k true=true:=fun q=>by
    induction q using Nat.strongRecOn with
    | _ q ihq =>
     intro k hq hk
     obtain ⟨k2,p,h1,h2,hp,e,hem,hb,hon⟩:=seqOk_spec (hseq hne2) (i:=k) (j:=i) (by omega) hin hk
     by_cases hk2:k2=i
     ·subst hk2
      rw [hoo] at hp
      cases hp
      rw [<- hon]
      exact hedge' e hem hb
     ·rw [<- hon]
      exact hcl k2 p hp (ihq (i - k2) (by omega) k2 rfl (by omega)) e hem hb
   exact hothers _ k rfl (by omega)
  have ho:l'[i]?=some o:=hof i o hil hoo
  obtain ⟨β,φ,s,b,hb,sr,hsn,hso1,hso2,hcb,d1,d2⟩:=hD
  simp only [List.size_toArray,List.getElem?_toArray] at hb hcb d1 d2
  obtain ⟨⟨d,hd,hdN⟩,hfor⟩:=hs1 i o ho
  have hia:as[i]?=some (as[i]'(by rw [has];exact hil)):=List.getElem?_eq_getElem _
  generalize as[i]'(by rw [has];exact hil)=al at hia
  have hiv:vs[i]?=some (vs[i]'(by rw [hvs];exact hil)):=List.getElem?_eq_getElem _
  have hix:xs[i]?=some (xs[i]'(by rw [hxs];exact hil)):=List.getElem?_eq_getElem _
  generalize vs[i]'(by rw [hvs];exact hil)=v at hiv
  generalize xs[i]'(by rw [hxs];exact hil)=x at hix
  obtain ⟨env',he⟩:=preE_grow l' vs xs i st hvs hxs
  have henv:env'=(pre l' vs i st).env:=by
   rw [<- preE_env l' vs xs i st st hvs hxs rfl,he]
  obtain ⟨f1,f2⟩:=hfp i (by omega)
  rw [<- henv] at f1 f2
  have hs:=hst i o v x al ho hiv hix hia
  rw [he] at hs
  have hag:∀ t ∈ Oper.looks ops o,find s.env t=find env' t:=fun t ht=>by
   by_cases hex:∃ (j:Nat) (p:Oper),l'[j]?=some p /\ p.dst=some t
   ·obtain ⟨j,p,hp,hpd⟩:=hex
    have hj:j < l'.length:=(hin' j p hp).2
    rcases (hs2 j i p o hp ho).2 t hpd ht with ⟨e,hem,hb,hon⟩ | ⟨hij,e,hem,hb,hon⟩
    ·have hlt:j < i:=by have:=hfor e hem hb;omega
     have hjv:vs[j]?=some (vs[j]'(by rw [hvs];exact hj)):=List.getElem?_eq_getElem _
     have h1:find env' t=_:=f1 j p t _ hlt hp hpd hjv
     have h2:=d1 j p t _ hp hpd hjv (by rw [<- hon];exact hedge e hem hb)
     rw [h1,h2]
    ·have h1:find env' t=find st.env t:=f2 t (fun k p' hk hp' hd'=>by
      have:=(hs2 k j p' p hp' hp).1 (by rw [hd',hpd])
      omega)
     have h2:find s.env t=find st.env t:=d2 t (fun k p' hp' hl hd'=>by
      have hkj:=(hs2 k j p' p hp' hp).1 (by rw [hd',hpd])
      subst hkj
      rw [hp] at hp'
      cases hp'
      have:=hcl k p (hin' k p hp).1 (by rw [getD_tf hsz (by omega) true false];exact hl) e hem hb
      rw [hon,hun] at this
      cases this)
     rw [h1,h2]
   ·have hno2:∀ (j:Nat) (p:Oper),l'[j]?=some p -> p.dst ≠ some t:=fun j p hp hpd=>hex ⟨j,p,hp,hpd⟩
    have h1:find env' t=_:=f2 t (fun k p _ hp=>hno2 k p hp)
    rw [h1,d2 t (fun j p hp _=>hno2 j p hp)]
  have hops:∀ y ∈ o.op.operands,opA s y=opA { grow xs i st with env:=env' } y:=fun y hy=>opA_find fun t e=>hag t (by
   subst e
   unfold Oper.looks
   exact List.mem_append_left _ (List.mem_filterMap.2 ⟨.tmp t,Array.mem_toList_iff.2 hy,rfl⟩))
  have hob:Agr s { grow xs i st with env:=env' }:=fun k=>by
   show s.obj k=(grow xs i st).obj k \/ (grow xs i st).obj k=.dead \/ ¬ s.kn k
   by_cases hk:∀ j:Nat,as[j]?=some (some k) -> listed.getD j false=true
   ·rw [hso2 k hk]
    rcases Nat.le_total b i with hbi | hbi
    ·by_cases hk:k < (grow xs b st).next
     ·exact .inl ((grow_mono xs st hbi (by omega)).2 k hk).symm
     ·exact .inr (.inr fun h=>hk (by rw [<- hsn];exact h.1))
    ·by_cases hk:k < (grow xs i st).next
     ·exact .inl ((grow_mono xs st hbi (by omega)).2 k hk)
     ·exact .inr (.inl (grow_dead xs i st hdead k (by omega)))
   ·simp only [Classical.not_forall] at hk
    obtain ⟨j,hj,hjl⟩:=hk
    exact .inr (.inr fun h=>h.2 (hso1 j k hj (by simpa using hjl)))
  have hset:∀ j,j ≠ i -> (listed.setIfInBounds i true).getD j true=listed.getD j true:=fun j hj=>getD_set_ne true (Ne.symm hj)
  have hsetf:∀ j,j ≠ i -> (listed.setIfInBounds i true).getD j false=listed.getD j false:=fun j hj=>getD_set_ne false (Ne.symm hj)
  have hseti:(listed.setIfInBounds i true).getD i true=true:=by
   rw [Array.getD_eq_getD_getElem?,Array.getElem?_setIfInBounds_self]
   simp [hsz,hin]
  have hsetif:(listed.setIfInBounds i true).getD i false=true:=by
   rw [Array.getD_eq_getD_getElem?,Array.getElem?_setIfInBounds_self]
   simp [hsz,hin]
  have again:∀ {β':Nat -> Info} {φ':Nat -> List Nat} {w':World} {x':Value} (s':St) (b':Nat),b' <= l'.length -> SR B N s' β' φ' a w' -> AVRel (s'.ctx w' β' φ') v x' -> s'.env=s.env -> s'.next=(grow xs b' st).next ->
    (∀ (j id:Nat),as[j]?=some (some id) -> (listed.setIfInBounds i true).getD j false=false -> s'.obj id=.hole) ->
    (∀ k,(∀ j:Nat,as[j]?=some (some k) -> (listed.setIfInBounds i true).getD j false=true) -> s'.obj k=(grow xs b' st).obj k) ->
    (∀ (j:Nat) (p:Oper),l'[j]?=some p -> br j=true -> ((listed.setIfInBounds i true).getD j true=true ↔ j < b')) -> wpAny P .any ops Q fuel (listed.setIfInBounds i true) (a.put o.dst x') w':=fun {β' φ' w' x'} s' b' hb' sr' hv hse hsn' hso1' hso2' hcb'=>by
   refine ih (listed.setIfInBounds i true) (by simpa using hsz) (by have:=cnt_set listed i hun ops.size hin;omega) (closed_set hsz hoo hin hedge' hcl) (fun k hk1 hk2=>by rw [getD_set_ne true (by omega)];exact hno k hk1 hk2) ⟨β',φ',s'.put d v,b',by simpa using hb',?_,hsn',hso1',hso2',fun j p hp hcp=>hcb' j p (by simpa using hp) hcp,fun j p t u hp hpd hju hlj=>?_,fun t ht=>?_⟩
   ·rw [hd]
    exact sr'.put hdN hv
   ·have hp:l'[j]?=some p:=by simpa using hp
    by_cases e:j=i
    ·subst e
     rw [ho] at hp
     cases hp
     rw [hd] at hpd
     cases hpd
     rw [hiv] at hju
     cases hju
     exact find_cons_self ..
    ·have hne:t ≠ d:=fun et=>e ((hs2 j i p o hp ho).1 (by rw [hpd,hd,et]))
     show find ((d,v) :: s'.env) t=_
     rw [find_cons_ne _ _ hne,hse]
     refine d1 j p t u hp hpd hju ?_
     rwa [hsetf j e] at hlj
   ·have hne:t ≠ d:=fun et=>ht i o (by simpa using ho) hsetif (by rw [hd,et])
    show find ((d,v) :: s'.env) t=_
    rw [find_cons_ne _ _ hne,hse]
    exact d2 t (fun j p hp hl=>ht j p (by simpa using hp) (by
     by_cases e:j=i
     ·subst e;exact hsetif
     ·rw [hsetf j e];exact hl))
  have keep1:al=none -> ∀ (j id:Nat),as[j]?=some (some id) -> (listed.setIfInBounds i true).getD j false=false -> s.obj id=.hole:=fun hal j id hj hl=>by
   have e:j ≠ i:=fun e=>by subst e;rw [hia,hal] at hj;cases hj
   rw [hsetf j e] at hl
   exact hso1 j id hj hl
  have keep2:al=none -> ∀ k,(∀ j:Nat,as[j]?=some (some k) -> (listed.setIfInBounds i true).getD j false=true) -> s.obj k=(grow xs b st).obj k:=fun hal k hk=>hso2 k fun j hj=>by
   have e:j ≠ i:=fun e=>by subst e;rw [hia,hal] at hj;cases hj
   have:=hk j hj
   rwa [hsetf j e] at this
  have hlow:∀ (j id:Nat),as[j]?=some (some id) -> id < (grow xs b st).next:=fun j id hj=>by
   have h1:=(hids j id hj).2
   have h2:=(grow_mono xs st (b:=0) (i:=b) (Nat.zero_le _) (by omega)).1
   have h0:grow xs 0 st=st:=by cases xs <;> rfl
   rw [h0] at h2
   omega
  unfold wpOp
  rw [hoo]
  simp only
  have fin:∀ {q:Prop},(if Region.wanted o (yielded ops a.tmps) then o.wp P a w (wpAny P .any ops Q fuel (listed.setIfInBounds i true)) Q else wpAny P .any ops Q fuel (listed.setIfInBounds i true) (a.put o.dst undef) w) ->
    (if Region.wanted o (yielded ops a.tmps)=true then o.wp P a w (wpAny P .any ops Q fuel (listed.setIfInBounds i true)) Q \/ q else wpAny P .any ops Q fuel (listed.setIfInBounds i true) (a.put o.dst undef) w):=fun {q} hwp=>by
   split at hwp
   ·rename_i hw
    rw [if_pos hw]
    exact .inl hwp
   ·rename_i hw
    rw [if_neg hw]
    exact hwp
  cases hcv:br i with
  | true =>
   have hbi:b <= i:=by
    apply Classical.byContradiction
    intro hn
    have:=(hcb i o ho hcv).2 (by omega)
    rw [this] at hun
    cases hun
   have hprev:∀ k p,k < i -> l'[k]?=some p -> br k=true -> k < b:=fun k p hk hp hcp=>by
    have hl:=heff k i p o hil (hin' k p hp).1 hoo hk hcp hcv listed hcl hedge'
    exact (hcb k p hp hcp).1 hl
   have hgs:grow xs i st=grow xs b st:=grow_same xs st hbi (by omega) fun k x' h1 h2 hx=>by
    have hk:k < l'.length:=by omega
    cases hck:br k with
    | false=>exact hnocall k _ x' (List.getElem?_eq_getElem hk) hx hck
    | true =>
     have:=hprev k _ h2 (List.getElem?_eq_getElem hk) hck
     omega
   have hcb':∀ (j:Nat) (p:Oper),l'[j]?=some p -> br j=true -> ((listed.setIfInBounds i true).getD j true=true ↔ j < i + 1):=fun j p hp hcp=>by
    by_cases e:j=i
    ·subst e
     rw [hseti]
     simp
    ·rw [hset j e,hcb j p hp hcp]
     constructor
     ·intro h1;omega
     ·intro h1
      exact hprev j p (by omega) hp hcp
   rcases hs with ⟨hal,hx,hs⟩ | ⟨hal,_,hg,hs⟩ | ⟨id,y,_,_,eo,_⟩
   ·subst hx
    have hg1:grow xs (i + 1) st=grow xs b st:=by rw [grow_succ xs i st [] hix,after_nil,hgs]
    cases hcc:callV o.op with
    | true =>
     have hs':=stepD_agree sr hob hcc hag hs
     exact fin (stepD_wp (Q:=Q) (next:=wpAny P .any ops Q fuel (listed.setIfInBounds i true)) sr hs' (fun β' φ' w' x' sr' hv =>
      again s (i + 1) (by omega) sr' hv rfl (by rw [hg1];exact hsn) (keep1 hal) (by rw [hg1];exact keep2 hal) hcb'))
    | false =>
     exact fin (stepA_wp (Q:=Q) (next:=wpAny P .any ops Q fuel (listed.setIfInBounds i true)) sr hob hcc (fun t ht=>hag t ht) hs (fun β' φ' w' x' sr' hv =>
      again s (i + 1) (by omega) sr' hv rfl (by rw [hg1];exact hsn) (keep1 hal) (by rw [hg1];exact keep2 hal) hcb'))
   ·have hs':=bringX_agree sr hob (by show s.next=(grow xs i st).next;rw [hgs];exact hsn) hops hs
    have hw:Region.wanted o (yielded ops a.tmps)=true:=by unfold Region.wanted;rw [hg]
    have hg1:grow xs (i + 1) st=(grow xs b st).after [] x:=by rw [grow_succ xs i st x hix,hgs]
    refine fin ?_
    rw [if_pos hw]
    refine bringX_wp sr hs' fun β' φ' w' y sr' hv=>again (s.after [] x) (i + 1) (by omega) sr' hv rfl ?_ ?_ ?_ hcb'
    ·rw [hg1]
     show s.next + _=(grow xs b st).next + _
     rw [hsn]
    ·intro j id hj hl
     rw [after_obj _ _ (by rw [hsn];exact hlow j id hj)];exact keep1 hal j id hj hl
    ·intro k hk
     rw [hg1]
     exact after_alike hsn x (keep2 hal k hk)
   ·rw [hcv] at eo;cases eo
  | false =>
   have hcb':∀ (j:Nat) (p:Oper),l'[j]?=some p -> br j=true -> ((listed.setIfInBounds i true).getD j true=true ↔ j < b):=fun j p hp hcp=>by
    have e:j ≠ i:=fun e=>by subst e;rw [hcv] at hcp;cases hcp
    rw [hset j e]
    exact hcb j p hp hcp
   rcases hs with ⟨hal,hx,hs⟩ | ⟨_,hc',_⟩ | ⟨id,y,hal,hx,_,hg,hpl,hbx⟩
   ·cases hcc:callV o.op with
    | true =>
     have hs':=stepD_agree sr hob hcc hag hs
     exact fin (stepD_wp (Q:=Q) (next:=wpAny P .any ops Q fuel (listed.setIfInBounds i true)) sr hs' (fun β' φ' w' x' sr' hv =>
      again s b hb sr' hv rfl hsn (keep1 hal) (keep2 hal) hcb'))
    | false =>
     exact fin (stepA_wp (Q:=Q) (next:=wpAny P .any ops Q fuel (listed.setIfInBounds i true)) sr hob hcc (fun t ht=>hag t ht) hs (fun β' φ' w' x' sr' hv =>
      again s b hb sr' hv rfl hsn (keep1 hal) (keep2 hal) hcb'))
   ·rw [hcv] at hc';cases hc'
   ·subst hal
    have hlf:listed.getD i false=false:=by rw [getD_tf hsz hin false true];exact hun
    obtain ⟨β',φ',w',z,sr',hrun',hr⟩:=hpl _ _ _ _ _ _ _ sr (by rw [hsn];exact hlow i id hia) (hids i id hia).1 (hso1 i id hia hlf)
    have hw:Region.wanted o (yielded ops a.tmps)=true:=by unfold Region.wanted;rw [hg]
    refine fin ?_
    rw [if_pos hw]
    unfold Oper.wp
    rw [hrun']
    refine again (s.setObj id y) b hb sr' hr rfl hsn ?_ ?_ hcb'
    ·intro j id' hj hl
     have e:j ≠ i:=fun e=>by subst e;rw [hsetif] at hl;cases hl
     have hne:id' ≠ id:=fun h=>e (hinj j i id (by rw [<- h];exact hj) hia)
     rw [St.obj_setObj_ne _ _ hne]
     rw [hsetf j e] at hl
     exact hso1 j id' hj hl
    ·intro k hk
     by_cases e:k=id
     ·subst e
      rw [St.obj_setObj_same]
      have h0:grow xs 0 st=st:=by cases xs <;> rfl
      have h1:=(grow_mono xs st (b:=0) (i:=b) (Nat.zero_le _) (by omega)).2 k (by rw [h0];exact (hids i k hia).2)
      have h2:=(grow_mono xs st (b:=0) (i:=i) (Nat.zero_le _) (by omega)).2 k (by rw [h0];exact (hids i k hia).2)
      rw [h1,<- h2]
      exact hbx.symm
     ·rw [St.obj_setObj_ne _ _ e]
      refine hso2 k fun j hj=>?_
      have hne:j ≠ i:=fun h=>by subst h;rw [hia] at hj;cases hj;exact e rfl
      have:=hk j hj
      rwa [hsetf j hne] at this

theorem resv_spec:∀ (l:List Oper) (st:St),(resv P l st).env=st.env /\ (resv P l st).next=st.next + (resvIds l st.next).length /\ resvIds l st.next=List.range' st.next (resvIds l st.next).length /\ (∀ k,k < st.next -> (resv P l st).obj k=st.obj k) /\
  ((∀ k,st.next <= k -> st.obj k=.dead) -> ∀ k,(resv P l st).next <= k -> (resv P l st).obj k=.dead)
 | [],st=>⟨rfl,rfl,rfl,fun _ _=>rfl,fun h=>h⟩
 | o :: r,st=>by
  cases eo:o.op with
  | alloc t =>
   obtain ⟨h1,h2,h3,h4,h5⟩:=resv_spec r (st.addObj (resvObj P t))
   have e1:resv P (o :: r) st=resv P r (st.addObj (resvObj P t)):=by simp only [resv,eo]
   have e2:resvIds (o :: r) st.next=st.next :: resvIds r (st.next + 1):=by simp only [resvIds,eo]
   have hn:(st.addObj (resvObj P t)).next=st.next + 1:=rfl
   rw [hn] at h2 h3
   rw [e1,e2]
   refine ⟨h1,by rw [h2,List.length_cons];omega,by rw [List.length_cons,List.range'_succ,<- h3],fun k hk=>?_,fun hd=>h5 fun k hk=>?_⟩
   ·rw [h4 k (by rw [hn];omega),St.obj_addObj_ne _ _ (by omega)]
   ·rw [hn] at hk
    rw [St.obj_addObj_ne _ _ (by omega)]
    exact hd k (by omega)
  | _ =>
   have e1:resv P (o :: r) st=if effOp o.op then st else resv P r st:=by simp only [resv,eo]
   have e2:resvIds (o :: r) st.next=if effOp o.op then [] else resvIds r st.next:=by simp only [resvIds,eo]
   rw [e1,e2]
   split
   ·exact ⟨rfl,rfl,rfl,fun _ _=>rfl,fun h=>h⟩
   ·exact resv_spec r st

theorem once_of_nodup:∀ {as:List (Option Nat)},(as.filterMap fun x=>x).Nodup -> ∀ (i j id:Nat),as[i]?=some (some id) -> as[j]?=some (some id) -> i=j
 | [],_,i,j,id,hi,_=>by simp at hi
 | none :: as,h,i,j,id,hi,hj=>by
  cases i with
  | zero=>simp at hi
  | succ i=>cases j with
   | zero=>simp at hj
   | succ j=>rw [once_of_nodup (as:=as) (by simpa using h) i j id (by simpa using hi) (by simpa using hj)]
 | some m :: as,h,i,j,id,hi,hj=>by
  simp only [List.filterMap_cons,List.nodup_cons] at h
  have hin:∀ k:Nat,as[k]?=some (some m) -> False:=fun k hk=>h.1 (List.mem_filterMap.2 ⟨some m,List.mem_of_getElem? hk,rfl⟩)
  cases i with
  | zero=>cases j with
   | zero=>rfl
   | succ j =>
    simp at hi hj
    subst hi
    exact (hin j hj).elim
  | succ i=>cases j with
   | zero =>
    simp at hi hj
    subst hj
    exact (hin i hi).elim
   | succ j=>rw [once_of_nodup (as:=as) h.2 i j id (by simpa using hi) (by simpa using hj)]

theorem drawB_wp {fl:Bool} {br:Nat -> Bool} {ops:Array Oper} {id:Nat} {Q:Exit -> Act -> World -> Prop} {K:St -> Prop} {stE:St} {ms:List Nat} (hm:P.follows .mixedOrders=true) (hok:drawOk ops N=true) (heff:∀ l' l2,ops.toList=l' ++ l2 -> (∀ o ∈ l',fstOk fl o) -> BringOkB ops l'.length br)
  (hQ:∀ st' β φ a w,SR B N st' β φ a w -> K st' -> Q .normal a w) (h:SR B N st β φ a w) (henv:stE.env=st.env) (hnx:stE.next=st.next + ms.length) (hms:ms=List.range' st.next ms.length)
  (hlo:∀ k,k < st.next -> stE.obj k=st.obj k) (hdd:∀ k,stE.next <= k -> stE.obj k=.dead) (hq:DrawnB fl br P ops ops.toList stE ms K):RegW P id ops true Q a w:=by
 obtain ⟨l',l2,vs,xs,as,hl,hvs,hxs,has,hms',hne,hst,hseq,st2,hst2,hK⟩:=hq
 have heff':=heff l' l2 hl hne
 rw [Array.length_toList,Nat.sub_self] at hst
 simp only [Nat.zero_add] at hst
 have hdst0:=fst_dst hok hl hne
 have hf:∀ k,k < ops.size -> (Array.replicate ops.size false).getD k true=false:=fun k hk=>by
  rw [Array.getD_eq_getD_getElem?,Array.getElem?_eq_getElem (by simpa using hk)]
  simp
 have hff:∀ k,(Array.replicate ops.size false).getD k false=false:=fun k=>by
  rw [Array.getD_eq_getD_getElem?]
  by_cases hk:k < ops.size
  ·rw [Array.getElem?_eq_getElem (by simpa using hk)];simp
  ·rw [Array.getElem?_eq_none (by simp;omega)];rfl
 have hsize:ops.size=l'.length + l2.length:=by rw [<- Array.length_toList,hl];simp
 have hmem:∀ (j id:Nat),as[j]?=some (some id) -> id ∈ ms:=fun j id hj=>by rw [<- hms'];exact List.mem_filterMap.2 ⟨some id,List.mem_of_getElem? hj,rfl⟩
 have hrng:∀ id,id ∈ ms ↔ st.next <= id /\ id < stE.next:=fun id=>by
  rw [hnx]
  conv=>lhs;rw [hms]
  rw [List.mem_range'_1]
 have hids:∀ (j id:Nat),as[j]?=some (some id) -> B.n <= id /\ id < stE.next:=fun j id hj=>by
  have:=(hrng id).1 (hmem j id hj)
  exact ⟨Nat.le_trans h.init.1 this.1,this.2⟩
 have hinj:∀ (i j id:Nat),as[i]?=some (some id) -> as[j]?=some (some id) -> i=j:=once_of_nodup (by rw [hms',hms];exact List.nodup_range')
 have hroom:=h.drew.2.room ms.length
 have hro:∀ o,({ st with objs:=(List.range' st.next ms.length).map (fun o=>(o,AObj.hole)) ++ st.objs,next:=st.next + ms.length }:St).obj o=if st.next <= o /\ o < st.next + ms.length then .hole else st.obj o:=room_obj st ms.length
 refine regW_any hm (anyB_wp hok hdd hl heff' hdst0 hseq hvs hxs has hids hinj hst hst2 hK hQ ops.size _ (by simp) (cnt_replicate _ _ (Nat.le_refl _)) (fun j o ho hj=>absurd hj (by rw [Array.getD_eq_getD_getElem?,Array.getElem?_eq_getElem (by simpa using (Array.getElem?_eq_some_iff.1 ho).1)];simp)) (fun k _ hk=>hf k hk)
  ⟨β,φ,_,0,Nat.zero_le _,hroom,?_,fun j id hj _=>?_,fun k hk=>?_,fun j o ho _=>?_,fun j o d v ho _ _ hlj=>?_,fun t _=>?_⟩)
 all_goals have hg0:grow xs 0 stE=stE:=by cases xs <;> rfl
 ·rw [hg0];exact hnx.symm
 ·have:=(hrng id).1 (hmem j id hj)
  rw [hro,if_pos ⟨this.1,by omega⟩]
 ·rw [hg0,hro]
  by_cases hc:st.next <= k /\ k < st.next + ms.length
  ·exfalso
   have hk2:k ∈ ms:=(hrng k).2 ⟨hc.1,by omega⟩
   rw [<- hms'] at hk2
   obtain ⟨y,hy,hyk⟩:=List.mem_filterMap.1 hk2
   subst hyk
   obtain ⟨j,hj,hj2⟩:=List.mem_iff_getElem.1 hy
   have:=hk j (by rw [List.getElem?_eq_getElem hj,hj2])
   rw [hff] at this
   cases this
  ·rw [if_neg hc]
   by_cases hlt:k < st.next
   ·exact (hlo k hlt).symm
   ·rw [hdd k (by omega),h.dead k (by omega)]
 ·have hj:j < l'.length:=by simpa using (Array.getElem?_eq_some_iff.1 ho).1
  rw [hf j (by omega)]
  simp
 ·rw [hff] at hlj
  cases hlj
 ·show find st.env t=find stE.env t
  rw [henv]

theorem drawE_wp {fl:Bool} {ops:Array Oper} {id:Nat} {Q:Exit -> Act -> World -> Prop} {K:St -> Prop} {stE:St} {ms:List Nat} (hm:P.follows .mixedOrders=true) (hok:drawOk ops N=true) (heff:∀ l' l2,ops.toList=l' ++ l2 -> (∀ o ∈ l',fstOk fl o) -> BringOk ops l'.length)
  (hQ:∀ st' β φ a w,SR B N st' β φ a w -> K st' -> Q .normal a w) (h:SR B N st β φ a w) (henv:stE.env=st.env) (hnx:stE.next=st.next + ms.length) (hms:ms=List.range' st.next ms.length)
  (hlo:∀ k,k < st.next -> stE.obj k=st.obj k) (hdd:∀ k,stE.next <= k -> stE.obj k=.dead) (hq:DrawnEff fl P ops ops.toList stE ms K):RegW P id ops true Q a w :=
 drawB_wp hm hok (fun l' l2 hl hne=>(heff l' l2 hl hne).toB) hQ h henv hnx hms hlo hdd hq.toB
theorem draw_wp {ops:Array Oper} {id:Nat} {Q:Exit -> Act -> World -> Prop} {K:St -> Prop} (hm:P.follows .mixedOrders=true) (hok:drawOk ops N=true)
  (hQ:∀ st' β φ a w,SR B N st' β φ a w -> K st' -> Q .normal a w) (h:SR B N st β φ a w) (hq:drawX P ops st K):RegW P id ops true Q a w:=by
 unfold drawX at hq
 split at hq
 ·rcases drawQ_ex _ _ hq with ⟨vs,hvs,hne,hst,hK⟩ | ⟨heff,hd⟩
  ·refine regW_any hm (any_wp hok hvs hne hst hK hQ ops.size _ (by simp) (cnt_replicate _ _ (Nat.le_refl _)) (fun j o ho hj=>absurd hj (by rw [Array.getD_eq_getD_getElem?,Array.getElem?_eq_getElem (by simpa using (Array.getElem?_eq_some_iff.1 ho).1)];simp)) ⟨β,φ,st.env,h.drew.2,fun j o d v ho _ _ hl=>?_,fun t _=>rfl⟩)
   rw [Array.getD_eq_getD_getElem?] at hl
   have hj:j < ops.size:=(Array.getElem?_eq_some_iff.1 ho).1
   rw [Array.getElem?_eq_getElem (by simpa using hj)] at hl
   simp at hl
  ·exact drawE_wp hm hok (fst_bring heff) hQ h rfl rfl rfl (fun _ _=>rfl) h.dead hd
 ·obtain ⟨heff,hd⟩:=hq
  obtain ⟨h1,h2,h3,h4,h5⟩:=resv_spec (P:=P) ops.toList st
  exact drawE_wp hm hok (fst_bring heff) hQ h h1 h2 h3 h4 (h5 h.dead) (drawE_ex _ _ _ hd)
end
end Go.Abs
