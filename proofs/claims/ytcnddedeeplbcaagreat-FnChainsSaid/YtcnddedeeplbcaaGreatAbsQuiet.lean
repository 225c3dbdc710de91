/- A region whose order is open: where all calls have one order, and all else is of temporaries alone, the order of the text serves. The calls may write whatever. Own work. -/
import Derived.Test.YtcnddedeeplbcaaGreatAbsLit
namespace Go.Abs
set_option linter.unusedVariables false
set_option linter.unusedSimpArgs false

def quietV (o:Oper):Bool:=o.guard.isNone && o.dst.isSome && match o.op with
 | .move _=>true
 | .assign _=>true
 | .unOp _ _ _=>true
 | .extract _ _=>true
 | .field _ _ _=>true
 | .binOp _ _ _ (.const (.slice none 0 0)) _=>false
 | .binOp ..=>true
 | _=>false
def okV (o:Oper):Bool:=quietV o || (callV o.op && o.guard.isNone && o.dst.isSome)

def quietN:List Oper -> Nat
 | []=>0
 | o :: r=>if okV o then quietN r + 1 else 0
def quietOk (ops:Array Oper):Bool :=
 decide (2 <= ((ops.toList.take (quietN ops.toList)).filter fun o=>callV o.op).length) && effOk ops && (decide (quietN ops.toList=ops.size) || seqOk ops (quietN ops.toList))

section
variable {P:Program} {B:Base} {N:Nat} {st st':St} {β:Nat -> Info} {φ:Nat -> List Nat} {a:Act} {w w':World}

theorem opA_fnd {x:Operand} (h:∀ t,x=.tmp t -> find st'.env t=find st.env t):opA st' x=opA st x:=by
 cases x with
 | tmp t=>simp only [opA];rw [h t rfl]
 | const v=>rfl
 | func f=>rfl
 | global g=>rfl

theorem un_fnd {x:Operand} {k k':AV -> Out} {q:Prop} {r:Option AV} {s:St} (hu:un st x k=some (q,r,s)) (hx:∀ t,x=.tmp t -> find st'.env t=find st.env t)
  (hk:∀ v q r s,k v=some (q,r,s) -> k' v=some (q,r,st')):un st' x k'=some (q,r,st'):=by
 unfold un at hu ⊢
 rw [opA_fnd hx]
 split at hu
 ·rename_i p v ev
  split at hu
  ·rename_i q' r' s' e
   cases hu
   try rw [ev]
   try simp only
   rw [hk _ _ _ _ e]
  ·cases hu
 ·cases hu
theorem un_out {x:Operand} {k:AV -> Out} {q:Prop} {r:Option AV} {s:St} (hu:un st x k=some (q,r,s)):∃ p v q',k v=some (q',r,s) /\ q=(p /\ q'):=by
 unfold un at hu
 split at hu
 ·rename_i p v ev
  split at hu
  ·rename_i q' r' s' e
   cases hu
   exact ⟨p,v,q',e,rfl⟩
  ·cases hu
 ·cases hu

theorem binS_any {op:BinOp} {t:TypeId} {u v:AV} {q:Prop} {r:Option AV} {s:St} (h:binS P st op t u v=some (q,r,s)):s=st /\ (∃ x,r=some x) /\ ∀ st',binS P st' op t u v=some (q,r,st'):=by
 unfold binS at h ⊢
 split at h
 ·split at h
  ·cases h;rename_i e;exact ⟨rfl,⟨_,rfl⟩,fun st'=>by simp only [e]⟩
  ·cases h
 ·split at h
  ·split at h
   ·cases h;rename_i e1 _ _ e;exact ⟨rfl,⟨_,rfl⟩,fun st'=>by simp only [e1,e]⟩
   ·cases h
  ·split at h
   ·cases h;rename_i e1 _ _ e;exact ⟨rfl,⟨_,rfl⟩,fun st'=>by simp only [e1,e]⟩
   ·cases h
  ·cases h
 ·cases h
theorem unS_any {op:UnOp} {u:AV} {q:Prop} {r:Option AV} {s:St} (h:unS st op u=some (q,r,s)):s=st /\ (∃ x,r=some x) /\ ∀ st',unS st' op u=some (q,r,st'):=by
 unfold unS at h ⊢
 split at h
 ·split at h
  ·cases h;exact ⟨rfl,⟨_,rfl⟩,fun _=>rfl⟩
  ·cases h
 ·split at h
  ·cases h;exact ⟨rfl,⟨_,rfl⟩,fun _=>rfl⟩
  ·cases h
 ·cases h
theorem fieldS_any {t:TypeId} {f:Nat} {u:AV} {q:Prop} {r:Option AV} {s:St} (h:fieldS P st t f u=some (q,r,s)):s=st /\ (∃ x,r=some x) /\ ∀ st',fieldS P st' t f u=some (q,r,st'):=by
 unfold fieldS at h ⊢
 split at h
 ·split at h
  ·cases h;rename_i e;exact ⟨rfl,⟨_,rfl⟩,fun _=>by simp only [e]⟩
  ·cases h;rename_i e;exact ⟨rfl,⟨_,rfl⟩,fun _=>by simp only [e]⟩
  ·cases h
 ·cases h
theorem extractS_any {k:Nat} {u:AV} {q:Prop} {r:Option AV} {s:St} (h:extractS st k u=some (q,r,s)):s=st /\ (∃ x,r=some x) /\ ∀ st',extractS st' k u=some (q,r,st'):=by
 unfold extractS at h ⊢
 split at h
 ·split at h
  ·cases h;rename_i e;exact ⟨rfl,⟨_,rfl⟩,fun _=>by simp only [e]⟩
  ·cases h;rename_i e;exact ⟨rfl,⟨_,rfl⟩,fun _=>by simp only [e]⟩
  ·cases h
 ·cases h

theorem quiet_val {o:Oper} (hq:quietV o=true) {q:Prop} {r:Option AV} {s:St} (h:opS P st o=some (q,r,s)) :
  s=st /\ (∃ v,r=some v) /\ ∀ st',(∀ t,Operand.tmp t ∈ o.op.operands -> find st'.env t=find st.env t) -> opS P st' o=some (q,r,st'):=by
 unfold quietV at hq
 simp only [Bool.and_eq_true] at hq
 obtain ⟨_,hq⟩:=hq
 unfold opS at h ⊢
 split at hq <;> rename_i eo <;> first | (cases hq;done) | skip
 ·simp only [eo] at h ⊢
  obtain ⟨p,v,q',e,_⟩:=un_out h
  cases e
  exact ⟨rfl,⟨_,rfl⟩,fun st' hag=>un_fnd h (fun t et=>hag t (by subst et;simp [Op.operands])) fun v q r s e=>by cases e;rfl⟩
 ·simp only [eo] at h ⊢
  obtain ⟨p,v,q',e,_⟩:=un_out h
  cases e
  exact ⟨rfl,⟨_,rfl⟩,fun st' hag=>un_fnd h (fun t et=>hag t (by subst et;simp [Op.operands])) fun v q r s e=>by cases e;rfl⟩
 ·simp only [eo] at h ⊢
  obtain ⟨p,v,q',e,_⟩:=un_out h
  obtain ⟨h1,h2,_⟩:=unS_any e
  exact ⟨h1,h2,fun st' hag=>un_fnd h (fun t et=>hag t (by subst et;simp [Op.operands])) fun v q r s e=>(unS_any e).2.2 st'⟩
 ·simp only [eo] at h ⊢
  obtain ⟨p,v,q',e,_⟩:=un_out h
  obtain ⟨h1,h2,_⟩:=extractS_any e
  exact ⟨h1,h2,fun st' hag=>un_fnd h (fun t et=>hag t (by subst et;simp [Op.operands])) fun v q r s e=>(extractS_any e).2.2 st'⟩
 ·simp only [eo] at h ⊢
  obtain ⟨p,v,q',e,_⟩:=un_out h
  obtain ⟨h1,h2,_⟩:=fieldS_any e
  exact ⟨h1,h2,fun st' hag=>un_fnd h (fun t et=>hag t (by subst et;simp [Op.operands])) fun v q r s e=>(fieldS_any e).2.2 st'⟩
 ·simp only [eo] at h ⊢
  obtain ⟨p,v,q',e,_⟩:=un_out h
  obtain ⟨p2,v2,q2,e2,_⟩:=un_out e
  obtain ⟨h1,h2,_⟩:=binS_any e2
  exact ⟨h1,h2,fun st' hag=>un_fnd h (fun t et=>hag t (by subst et;simp [Op.operands])) fun v q r s e =>
   un_fnd e (fun t et=>hag t (by subst et;simp [Op.operands])) fun v q r s e=>(binS_any e).2.2 st'⟩

theorem stepQ_quiet {ops:Array Oper} {o:Oper} (hq:quietV o=true) {K:St -> Prop}:stepQ P ops st o K ↔ ∃ q v,opS P st o=some (q,some v,st) /\ q /\ K (st.putO o.dst (some v)):=by
 have hg:o.guard=none:=by
  unfold quietV at hq
  simp only [Bool.and_eq_true] at hq
  simpa using hq.1.1
 unfold stepQ
 rw [hg]
 simp only
 unfold opQ
 constructor
 ·intro h
  split at h
  ·rename_i q r s e
   obtain ⟨rfl,⟨v,rfl⟩,_⟩:=quiet_val hq e
   exact ⟨q,v,e,h.1,h.2⟩
  ·rename_i e
   exfalso
   unfold quietV at hq
   simp only [Bool.and_eq_true] at hq
   obtain ⟨_,hq⟩:=hq
   have hc:capArg P st o=none:=by unfold capArg;split at hq <;> rename_i eo <;> first | (cases hq;done) | simp only [eo]
   have ho:openArg P st o=none:=by unfold openArg;split at hq <;> rename_i eo <;> first | (cases hq;done) | simp only [eo]
   have hcl:callee st o=none:=by unfold callee;split at hq <;> rename_i eo <;> first | (cases hq;done) | simp only [eo]
   have hn:nilArg P st o=none:=by
    unfold nilArg
    split at hq <;> rename_i eo <;> first | (cases hq;done) | skip
    all_goals first
     | (simp only [eo];done)
     | (simp only [eo];split <;> first | rfl | (rename_i hne _ _ _ e2;exact absurd e2 (by intro c;cases c;simp_all)))
   rw [hn,hc,ho] at h
   simp only at h
   unfold callQ at h
   rw [hcl] at h
   exact h
 ·rintro ⟨q,v,e,h1,h2⟩
  rw [e]
  exact ⟨h1,h2⟩

def Al (s s':St):Prop:=∃ env,s'={ s with env:=env } /\ ∀ t,find env t=find s.env t
theorem Al.refl (s:St):Al s s:=⟨s.env,rfl,fun _=>rfl⟩
theorem Al.trans {a b c:St} (h:Al a b) (h':Al b c):Al a c:=by
 obtain ⟨e,rfl,h1⟩:=h
 obtain ⟨e',rfl,h2⟩:=h'
 exact ⟨e',rfl,fun t=>(h2 t).trans (h1 t)⟩
theorem Al.put {a b:St} (h:Al a b) (d:Nat) (v:AV):Al (a.put d v) (b.put d v):=by
 obtain ⟨e,rfl,h1⟩:=h
 refine ⟨(d,v) :: e,rfl,fun t=>?_⟩
 show find ((d,v) :: e) t=find ((d,v) :: a.env) t
 simp only [find]
 rw [h1 t]
theorem Al.putO {a b:St} (h:Al a b) {d:Option Nat} (hd:d.isSome=true) (v:AV):Al (a.putO d (some v)) (b.putO d (some v)):=by
 cases d with
 | none=>cases hd
 | some d=>exact h.put d v
theorem SR.al {s s':St} (h:Al s s') (sr:SR B N s' β φ a w):SR B N s β φ a w:=by
 obtain ⟨e,rfl,h1⟩:=h
 have:=sr.forget s.env (fun t v hv=>by
  show find e t=some v
  rw [h1 t];exact hv)
 exact this

theorem frzAll_env' (env:List (Nat × AV)):∀ (os:List Nat) (st:St),frzAll { st with env:=env } os={ frzAll st os with env:=env }
 | [],st=>rfl
 | o :: os,st=>by
  rw [frzAll,frzAll]
  rw [obj_env]
  cases e:st.obj o <;> first
   | exact frzAll_env' env os st
   | exact frzAll_env' env os (st.setObj o (.frz _ _))
theorem wholeFrom_env (env:List (Nat × AV)) (st:St):∀ (n k:Nat),wholeFrom { st with env:=env } k n=wholeFrom st k n
 | 0,_=>rfl
 | n + 1,k=>by rw [wholeFrom,wholeFrom,wholeFrom_env env st n];rfl
theorem datL_env (env:List (Nat × AV)) (st:St) (l:Leaf):datL { st with env:=env } l=datL st l:=by cases l <;> rfl
theorem datLs_env (env:List (Nat × AV)) (st:St):∀ ls:List Leaf,datLs { st with env:=env } ls=datLs st ls
 | []=>rfl
 | l :: ls=>by simp only [datLs];rw [datL_env,datLs_env env st ls]
theorem datA_env (env:List (Nat × AV)) (st:St) (u:AV):datA { st with env:=env } u=datA st u:=by
 cases u with
 | one l=>simp only [datA];rw [datL_env]
 | agg ls=>simp only [datA];rw [datLs_env]
 | tup vs=>rfl
 | ifg b v=>rfl
theorem datAs_env (env:List (Nat × AV)) (st:St):∀ us:List AV,datAs { st with env:=env } us=datAs st us
 | []=>rfl
 | u :: us=>by simp only [datAs];rw [datA_env,datAs_env env st us]

theorem callQ_env {env:List (Nat × AV)} {o:Oper} (hag:∀ t,Operand.tmp t ∈ o.op.operands -> find env t=find st.env t) {K K':AV -> St -> Prop} (hq:callQ P st o K) (hk:∀ r s,s.env=st.env -> K r s -> K' r { s with env:=env }) :
  callQ P { st with env:=env } o K':=by
 unfold callQ at hq ⊢
 rw [callee_env hag]
 split at hq
 ·rename_i q fid avs e
  obtain ⟨h0,hq⟩:=hq
  refine ⟨h0,?_⟩
  rcases hq with ⟨os,vs,r,objs',h1,h2,h3,h4,h5⟩ | ⟨h1,h2,h3⟩ | ⟨os,vs,r,objs',h1,h2,h3,h4⟩ | ⟨R,h1,h2,h3,h4⟩
  ·refine .inl ⟨os,vs,r,objs',by rw [viewAs_env];exact h1,?_,h3,h4,hk _ (st.after os objs') rfl h5⟩
   clear h1 h4 h5
   induction os with
   | nil=>trivial
   | cons o os ih=>exact ⟨h2.1,ih h2.2⟩
  ·exact .inr (.inl ⟨h1,h2,hk _ st rfl h3⟩)
  ·refine .inr (.inr (.inl ⟨os,vs,r,objs',?_,h2,h3,?_⟩))
   ·rw [frzAll_env',datAs_env];exact h1
   ·rw [frzAll_env']
    exact hk _ ((frzAll st os).after [] objs') (frzAll_env os st) h4
  ·refine .inr (.inr (.inr ⟨R,h1,?_,h3,fun r objs' hr=>hk _ (st.behind objs') rfl (h4 r objs' hr)⟩))
   rw [show St.whole { st with env:=env }=st.whole from wholeFrom_env env st _ _]
   exact h2
 ·exact hq.elim

theorem callQ_ex {o:Oper} {K:AV -> St -> Prop} (hq:callQ P st o K):∃ r s,s.env=st.env /\ K r s:=by
 unfold callQ at hq
 split at hq
 ·rename_i q fid avs e
  obtain ⟨h0,hq⟩:=hq
  rcases hq with ⟨os,vs,r,objs',h1,h2,h3,h4,h5⟩ | ⟨h1,h2,h3⟩ | ⟨os,vs,r,objs',h1,h2,h3,h4⟩ | ⟨R,h1,h2,⟨r,objs',h3⟩,h4⟩
  ·exact ⟨_,st.after os objs',rfl,h5⟩
  ·exact ⟨_,st,rfl,h3⟩
  ·exact ⟨_,(frzAll st os).after [] objs',frzAll_env os st,h4⟩
  ·exact ⟨_,st.behind objs',rfl,h4 r objs' h3⟩
 ·exact hq.elim
theorem callQ_mono {o:Oper} {K K':AV -> St -> Prop} (hq:callQ P st o K) (hk:∀ r s,s.env=st.env -> K r s -> K' r s):callQ P st o K':=by
 have:=callQ_env (env:=st.env) (fun _ _=>rfl) hq (K':=K') (fun r s hs h=>by
  have:=hk r s hs h
  obtain ⟨e,ob,n⟩:=s
  have hs:e=st.env:=hs
  subst hs
  exact this)
 exact this

theorem stepQ_callV {ops:Array Oper} {o:Oper} (hc:callV o.op=true) (hg:o.guard=none) {K:St -> Prop}:stepQ P ops st o K ↔ callQ P st o fun r s=>K (s.putO o.dst (some r)):=by
 unfold stepQ
 rw [hg]
 simp only
 unfold opQ
 have h1:opS P st o=none:=by
  unfold opS
  unfold callV at hc
  split at hc <;> rename_i eo <;> first | (cases hc;done) | simp only [eo]
 have h2:nilArg P st o=none:=by unfold nilArg;unfold callV at hc;split at hc <;> rename_i eo <;> first | (cases hc;done) | simp only [eo]
 have h3:capArg P st o=none:=by unfold capArg;unfold callV at hc;split at hc <;> rename_i eo <;> first | (cases hc;done) | simp only [eo]
 have h4:openArg P st o=none:=by unfold openArg;unfold callV at hc;split at hc <;> rename_i eo <;> first | (cases hc;done) | simp only [eo]
 rw [h1,h2,h3,h4]

theorem okV_dst {o:Oper} (h:okV o=true):∃ d,o.dst=some d:=by
 unfold okV quietV at h
 simp only [Bool.or_eq_true,Bool.and_eq_true] at h
 rcases h with h | h
 ·exact Option.isSome_iff_exists.1 h.1.2
 ·exact Option.isSome_iff_exists.1 h.2
theorem okV_split {o:Oper} (h:okV o=true):quietV o=true \/ (quietV o=false /\ callV o.op=true /\ o.guard=none):=by
 cases hq:quietV o with
 | true=>exact .inl rfl
 | false =>
  unfold okV at h
  rw [hq] at h
  simp only [Bool.false_or,Bool.and_eq_true] at h
  exact .inr ⟨rfl,h.1.1,by simpa using h.1.2⟩
theorem okV_eff {o:Oper} (h:okV o=true):effT o.op=false:=by
 rcases okV_split h with hq | ⟨_,hc,_⟩
 ·unfold quietV at hq
  simp only [Bool.and_eq_true] at hq
  obtain ⟨_,hq⟩:=hq
  unfold effT effOp
  split at hq <;> rename_i eo <;> first | (cases hq;done) | simp only [eo,pureOp]
  all_goals first | rfl | skip
 ·unfold effT effOp
  unfold callV at hc
  split at hc <;> rename_i eo <;> first | (cases hc;done) | simp only [eo]
  all_goals first | rfl | skip

theorem find_putO_ne {d:Option Nat} {v:AV} {t:Nat} (h:d ≠ some t):find (st.putO d (some v)).env t=find st.env t:=by
 cases d with
 | none=>rfl
 | some d =>
  show find ((d,v) :: st.env) t=_
  rw [find_cons_ne]
  exact fun e=>h (by rw [e])

def AlC (K:St -> Prop):Prop:=∀ s s',Al s s' -> K s -> K s'

theorem stepQ_mono {ops:Array Oper} {o:Oper} (hv:okV o=true) {K K':St -> Prop} (h:stepQ P ops st o K) (hk:∀ s,K s -> K' s):stepQ P ops st o K':=by
 rcases okV_split hv with hq | ⟨_,hc,hg⟩
 ·obtain ⟨q,v,e,h1,h2⟩:=(stepQ_quiet hq).1 h
  exact (stepQ_quiet hq).2 ⟨q,v,e,h1,hk _ h2⟩
 ·exact (stepQ_callV hc hg).2 (callQ_mono ((stepQ_callV hc hg).1 h) fun r s _ h=>hk _ h)

theorem stepQ_al {ops:Array Oper} {o:Oper} (hv:okV o=true) {K:St -> Prop} (h:stepQ P ops st o K) (hal:Al st st') (hK:AlC K):stepQ P ops st' o K:=by
 have hd:=okV_dst hv
 have hds:o.dst.isSome=true:=Option.isSome_iff_exists.2 hd
 rcases okV_split hv with hq | ⟨_,hc,hg⟩
 ·obtain ⟨q,v,e,h1,h2⟩:=(stepQ_quiet hq).1 h
  have e':=(quiet_val hq e).2.2 st' (fun t _=>by obtain ⟨en,rfl,h3⟩:=hal;exact h3 t)
  exact (stepQ_quiet hq).2 ⟨q,v,e',h1,hK _ _ (hal.putO hds v) h2⟩
 ·obtain ⟨en,rfl,h3⟩:=hal
  refine (stepQ_callV hc hg).2 (callQ_env (fun t _=>h3 t) ((stepQ_callV hc hg).1 h) fun r s hs h=>?_)
  exact hK _ _ (Al.putO ⟨en,rfl,fun t=>by rw [hs];exact h3 t⟩ hds r) h

theorem regQ_al {ops:Array Oper} {K:St -> Prop} (hK:AlC K):∀ (L:List Oper),(∀ o ∈ L,okV o=true) -> AlC fun s=>regQ P ops L s K
 | [],_=>hK
 | o :: L,h=>fun s s' hal hr=>stepQ_al (h o (by simp)) (K:=fun s=>regQ P ops L s K) hr hal (regQ_al hK L fun x hx=>h x (List.mem_cons_of_mem _ hx))

theorem al_swap {a b:Nat} (h:a ≠ b) (u v:AV):Al ((st.put a v).put b u) ((st.put b u).put a v):=by
 refine ⟨(a,v) :: (b,u) :: st.env,rfl,fun t=>?_⟩
 show find ((a,v) :: (b,u) :: st.env) t=find ((b,u) :: (a,v) :: st.env) t
 simp only [find]
 by_cases h1:t=a
 ·have h2:t ≠ b:=fun e=>h (h1.symm.trans e)
  simp [h1,h]
 ·by_cases h2:t=b
  ·simp [h1,h2,Ne.symm h]
  ·simp [h1,h2]

theorem swapQ {ops:Array Oper} {x o:Oper} (hx:okV x=true) (ho:okV o=true) (hnc:quietV x=true \/ quietV o=true) (h1:∀ d,x.dst=some d -> Operand.tmp d ∉ o.op.operands) (h2:∀ d,o.dst=some d -> Operand.tmp d ∉ x.op.operands) (h3:x.dst ≠ o.dst)
  {R:St -> Prop} (hR:AlC R) (h:stepQ P ops st x fun s=>stepQ P ops s o R):stepQ P ops st o fun s=>stepQ P ops s x R:=by
 obtain ⟨a,ha⟩:=okV_dst hx
 obtain ⟨b,hb⟩:=okV_dst ho
 have hab:a ≠ b:=fun e=>h3 (by rw [ha,hb,e])
 have n1:∀ t,Operand.tmp t ∈ o.op.operands -> x.dst ≠ some t:=fun t ht e=>h1 t e ht
 have n2:∀ t,Operand.tmp t ∈ x.op.operands -> o.dst ≠ some t:=fun t ht e=>h2 t e ht
 rcases okV_split hx with qx | ⟨qx,cx,gx⟩
 ·obtain ⟨q,v,e,hq,h⟩:=(stepQ_quiet qx).1 h
  rcases okV_split ho with qo | ⟨qo,co,go⟩
  ·obtain ⟨q2,u,e2,hq2,h⟩:=(stepQ_quiet qo).1 h
   have e2':=(quiet_val qo e2).2.2 st (fun t ht=>(find_putO_ne (n1 t ht)).symm)
   refine (stepQ_quiet qo).2 ⟨q2,u,e2',hq2,(stepQ_quiet qx).2 ⟨q,v,(quiet_val qx e).2.2 _ (fun t ht=>find_putO_ne (n2 t ht)),hq,?_⟩⟩
   rw [ha,hb] at h ⊢
   exact hR _ _ (al_swap hab u v) h
  ·have hc:=(stepQ_callV co go).1 h
   refine (stepQ_callV co go).2 ?_
   have key:=callQ_env (env:=st.env) (fun t ht=>(find_putO_ne (n1 t ht)).symm) hc (K':=fun r s=>stepQ P ops (s.putO o.dst (some r)) x R) (fun r s hs hr=>by
    refine (stepQ_quiet qx).2 ⟨q,v,(quiet_val qx e).2.2 _ (fun t ht=>find_putO_ne (st:={ s with env:=st.env }) (n2 t ht)),hq,?_⟩
    rw [ha] at hs
    rw [ha,hb]
    rw [hb] at hr
    have hs':s=({ s with env:=st.env }:St).put a v:=by
     obtain ⟨en,ob,nx⟩:=s
     have:en=(a,v) :: st.env:=hs
     subst this
     rfl
    rw [hs'] at hr
    exact hR _ _ (al_swap hab r v) hr)
   rw [ha] at key
   exact key
 ·rcases okV_split ho with qo | ⟨qo,co,go⟩
  ·have hc:=(stepQ_callV cx gx).1 h
   obtain ⟨r0,s0,hs0,h0⟩:=callQ_ex hc
   obtain ⟨q2,u,e2,hq2,_⟩:=(stepQ_quiet qo).1 h0
   have e2':=(quiet_val qo e2).2.2 st (fun t ht=>by rw [find_putO_ne (n1 t ht),hs0])
   refine (stepQ_quiet qo).2 ⟨q2,u,e2',hq2,(stepQ_callV cx gx).2 ?_⟩
   have key:=callQ_env (env:=(b,u) :: st.env) (fun t ht=>find_cons_ne _ _ (fun e=>n2 t ht (by rw [hb,e]))) hc (K':=fun r s=>R (s.putO x.dst (some r))) (fun r s hs hr=>by
    obtain ⟨q3,u3,e3,hq3,hr⟩:=(stepQ_quiet qo).1 hr
    have e3':=(quiet_val qo e3).2.2 st (fun t ht=>by rw [find_putO_ne (n1 t ht),hs])
    rw [e2'] at e3'
    cases e3'
    rw [ha,hb] at hr
    rw [ha]
    have hs':s=({ s with env:=st.env }:St):=by
     obtain ⟨en,ob,nx⟩:=s
     have:en=st.env:=hs
     subst this
     rfl
    rw [hs'] at hr
    exact hR _ _ (al_swap hab u r) hr)
   rw [hb]
   exact key
  ·rcases hnc with c | c
   ·rw [qx] at c;cases c
   ·rw [qo] at c;cases c

theorem regQ_front {ops:Array Oper} {K:St -> Prop} (hK:AlC K) {o:Oper} (ho:okV o=true) {C:List Oper} (hC:∀ x ∈ C,okV x=true):∀ (A:List Oper) {st:St},(∀ x ∈ A,okV x=true /\ (quietV x=true \/ quietV o=true) /\ (∀ d,x.dst=some d -> Operand.tmp d ∉ o.op.operands) /\ (∀ d,o.dst=some d -> Operand.tmp d ∉ x.op.operands) /\ x.dst ≠ o.dst) ->
  regQ P ops (A ++ o :: C) st K -> stepQ P ops st o fun s=>regQ P ops (A ++ C) s K
 | [],st,_,h=>h
 | x :: A,st,hA,h=>by
  obtain ⟨a1,a2,a3,a4,a5⟩:=hA x (by simp)
  have hA':∀ y ∈ A,_:=fun y hy=>hA y (List.mem_cons_of_mem _ hy)
  have h':stepQ P ops st x fun s=>regQ P ops (A ++ o :: C) s K:=h
  exact swapQ a1 ho a2 a3 a4 a5 (regQ_al hK (A ++ C) fun y hy=>(List.mem_append.1 hy).elim (fun hy=>(hA y (List.mem_cons_of_mem _ hy)).1) (hC y))
   (stepQ_mono a1 h' fun s hs=>regQ_front hK ho hC A (fun y hy=>hA y (List.mem_cons_of_mem _ hy)) hs)

theorem filter_split:∀ {l:List Nat},l.Pairwise (· < ·) -> ∀ {p p':Nat -> Bool} {i:Nat},i ∈ l -> p i=true -> p' i=false -> (∀ k,k ≠ i -> p' k=p k) -> ∃ A C,l.filter p=A ++ i :: C /\ l.filter p'=A ++ C /\ ∀ k ∈ A,k < i
 | [],_,_,_,_,h,_,_,_=>by cases h
 | x :: l,hl,p,p',i,hi,hp,hp',hne=>by
  obtain ⟨hx,hl'⟩:=List.pairwise_cons.1 hl
  by_cases e:x=i
  ·subst e
   refine ⟨[],l.filter p,by rw [List.filter_cons,if_pos hp];rfl,?_,by simp⟩
   rw [List.filter_cons,if_neg (by rw [hp'];simp)]
   exact List.filter_congr fun k hk=>hne k (fun e=>absurd (hx k hk) (by omega))
  ·have hi':i ∈ l:=by
    rcases List.mem_cons.1 hi with h | h
    ·exact absurd h.symm e
    ·exact h
   obtain ⟨A,C,h1,h2,h3⟩:=filter_split hl' hi' hp hp' hne
   by_cases px:p x=true
   ·refine ⟨x :: A,C,by rw [List.filter_cons,if_pos px,h1];rfl,by rw [List.filter_cons,if_pos (by rw [hne x e];exact px),h2];rfl,fun k hk=>?_⟩
    rcases List.mem_cons.1 hk with rfl | hk
    ·exact hx i hi'
    ·exact h3 k hk
   ·exact ⟨A,C,by rw [List.filter_cons,if_neg px,h1],by rw [List.filter_cons,if_neg (by rw [hne x e];exact px),h2],h3⟩

def remN (listed:Array Bool) (m:Nat):List Nat:=(List.range m).filter fun j=>!listed.getD j true
def opsAt (ops:Array Oper) (is:List Nat):List Oper:=is.filterMap fun j=>ops[j]?

theorem quietN_le:∀ l:List Oper,quietN l <= l.length
 | []=>Nat.le_refl _
 | o :: l=>by
  have:=quietN_le l
  rw [quietN]
  split <;> simp <;> omega
theorem quietN_ok:∀ (l:List Oper) (j:Nat) (o:Oper),j < quietN l -> l[j]?=some o -> okV o=true
 | [],j,o,h,_=>by cases h
 | x :: l,j,o,h,hj=>by
  rw [quietN] at h
  split at h
  ·rename_i hx
   cases j with
   | zero=>simp at hj;subst hj;exact hx
   | succ j=>exact quietN_ok l j o (by omega) (by simpa using hj)
  ·cases h

theorem quiet_any {ops:Array Oper} {Q:Exit -> Act -> World -> Prop} {K:St -> Prop} (hok:drawOk ops N=true) (heff:effOk ops=true) {m:Nat} (hmn:m <= ops.size) (hpre:∀ (j:Nat) (o:Oper),j < m -> ops[j]?=some o -> okV o=true) (hseq:m=ops.size \/ seqOk ops m=true)
  (hQ:∀ st' β φ a w,SR B N st' β φ a w -> K st' -> Q .normal a w):∀ (fuel:Nat) (listed:Array Bool),listed.size=ops.size -> cnt listed ops.size=fuel ->
    (∀ (j:Nat) (o:Oper),ops[j]?=some o -> listed.getD j true=true -> ∀ e ∈ o.after,Region.binds .any e=true -> listed.getD e.on true=true) -> (∀ k,m <= k -> k < ops.size -> listed.getD k true=false) ->
    ∀ {st:St} {β:Nat -> Info} {φ:Nat -> List Nat} {a:Act} {w:World},SR B N st β φ a w -> regQ P ops (opsAt ops (remN listed m)) st (fun s=>∃ s0,Al s0 s /\ regQ P ops (ops.toList.drop m) s0 K) -> wpAny P .any ops Q fuel listed a w:=by
 obtain ⟨hs1,hs2⟩:=drawOk_spec hok
 have hdN:∀ (j:Nat) (o:Oper) (d:Nat),ops[j]?=some o -> o.dst=some d -> d < N:=fun j o d ho hd=>(hs1 j o ho).1.1 d hd
 have hback:∀ (j:Nat) (o:Oper),ops[j]?=some o -> ∀ e ∈ o.after,Region.binds .any e=true -> e.on < j:=fun j o ho=>(hs1 j o ho).2
 have hseq':seqOk ops m=true:=by
  rcases hseq with rfl | h
  ·unfold seqOk
   rw [List.all_eq_true]
   intro j hj
   have:=List.mem_range.1 hj
   simp [this]
  ·exact h
 have hready:∀ listed:Array Bool,listed.size=ops.size -> Region.ready .any ops listed=[] -> ∀ k,k < ops.size -> listed.getD k true=true:=fun listed hsz hr k=>by
  induction k using Nat.strongRecOn with
  | _ k ih =>
   intro hk
   apply Classical.byContradiction
   intro hn
   have hn':listed.getD k true=false:=by simpa using hn
   have hmem:k ∈ Region.ready .any ops listed:=mem_ready.2 ⟨hn',ops[k],Array.getElem?_eq_getElem hk,fun e he hb=>by
    have hlt:=hback k ops[k] (Array.getElem?_eq_getElem hk) e he hb
    have:=ih e.on hlt (by omega)
    rw [Array.getD_eq_getD_getElem?,Array.getElem?_eq_getElem (by omega)] at this ⊢
    exact this⟩
   rw [hr] at hmem
   cases hmem
 have hKT:AlC fun s=>∃ s0,Al s0 s /\ regQ P ops (ops.toList.drop m) s0 K:=fun s s' hal ⟨s0,h1,h2⟩=>⟨s0,h1.trans hal,h2⟩
 intro fuel
 induction fuel with
 | zero =>
  intro listed hsz hc hcl hhi st β φ a w sr hq
  have hall:=cnt_zero hc
  have hmsz:m=ops.size:=by
   apply Classical.byContradiction
   intro hn
   have h1:=hhi m (Nat.le_refl _) (by omega)
   rw [hall m (by omega)] at h1
   cases h1
  have hrem:remN listed m=[]:=by
   unfold remN
   rw [List.filter_eq_nil_iff]
   intro k hk
   rw [hall k (by have:=List.mem_range.1 hk;omega)]
   simp
  rw [hrem] at hq
  obtain ⟨s0,hal,hq⟩:=hq
  exact seq_wp hseq' hdN hback hQ 0 m listed (Nat.le_refl _) hmn hsz hc (fun k hk=>⟨fun _=>by omega,fun _=>hall k hk⟩) (sr.al hal) hq
 | succ fuel ih =>
  intro listed hsz hc hcl hhi st β φ a w sr hq
  by_cases hrem:remN listed m=[]
  ·rw [hrem] at hq
   obtain ⟨s0,hal,hq⟩:=hq
   have hlow:∀ k,k < m -> listed.getD k true=true:=fun k hk=>by
    unfold remN at hrem
    rw [List.filter_eq_nil_iff] at hrem
    have:=hrem k (List.mem_range.2 hk)
    simpa using this
   exact seq_wp hseq' hdN hback hQ (fuel + 1) m listed (Nat.le_refl _) hmn hsz hc (fun k hk=>⟨fun h1=>Classical.byContradiction fun hn=>Bool.noConfusion ((hhi k (by omega) hk).symm.trans h1),fun h1=>hlow k h1⟩) (sr.al hal) hq
  ·refine ⟨fun hr=>?_,fun i hi=>?_⟩
   ·exfalso
    apply hrem
    unfold remN
    rw [List.filter_eq_nil_iff]
    intro k hk
    rw [hready listed hsz hr k (by have:=List.mem_range.1 hk;omega)]
    simp
   ·obtain ⟨hun,o,ho,hedge⟩:=mem_ready.1 hi
    have hin:i < ops.size:=(Array.getElem?_eq_some_iff.1 ho).1
    have hedge':∀ e ∈ o.after,Region.binds .any e=true -> listed.getD e.on true=true:=fun e he hb=>by
     have h1:=hedge e he hb
     have:=hback i o ho e he hb
     rw [getD_tf hsz (by omega) true false];first | exact h1 | (rw [getD_tf hsz (by omega) false true];exact h1)
    have him:i < m:=by
     apply Classical.byContradiction
     intro hn
     apply hrem
     have key:∀ d k,i - k=d -> k < i -> listed.getD k true=true:=fun d=>by
      induction d using Nat.strongRecOn with
      | _ d ihd =>
       intro k hd hk
       obtain ⟨k',p,h1,h2,hp,e,hem,hb,hon⟩:=seqOk_spec hseq' (i:=k) (j:=i) (by omega) hin hk
       by_cases hk':k'=i
       ·subst hk'
        rw [ho] at hp
        cases hp
        have:=hedge' e hem hb
        rw [hon] at this
        exact this
       ·have h3:=ihd (i - k') (by omega) k' rfl (by omega)
        have:=hcl k' p hp h3 e hem hb
        rw [hon] at this
        exact this
     unfold remN
     rw [List.filter_eq_nil_iff]
     intro k hk
     rw [key _ k rfl (by have:=List.mem_range.1 hk;omega)]
     simp
    have hoV:=hpre i o him ho
    obtain ⟨A,C,hA,hC,hAi⟩:=filter_split (l:=List.range m) List.pairwise_lt_range (p:=fun j=>!listed.getD j true) (p':=fun j=>!(listed.setIfInBounds i true).getD j true) (i:=i) (List.mem_range.2 him) (by rw [hun];rfl)
     (by rw [Array.getD_eq_getD_getElem?,Array.getElem?_setIfInBounds_self];simp [hsz,hin]) (fun k hk=>by rw [getD_set_ne true (Ne.symm hk)])
    have hmemA:∀ k ∈ A,k < m /\ listed.getD k true=false:=fun k hk=>by
     have:k ∈ (List.range m).filter fun j=>!listed.getD j true:=by rw [hA];exact List.mem_append_left _ hk
     obtain ⟨h1,h2⟩:=List.mem_filter.1 this
     exact ⟨List.mem_range.1 h1,by simpa using h2⟩
    have hmemC:∀ k ∈ C,k < m:=fun k hk=>by
     have:k ∈ (List.range m).filter fun j=>!listed.getD j true:=by rw [hA];exact List.mem_append_right _ (List.mem_cons_of_mem _ hk)
     exact List.mem_range.1 (List.mem_filter.1 this).1
    have hat:∀ {x:Oper} {is:List Nat},x ∈ opsAt ops is -> ∃ k ∈ is,ops[k]?=some x:=fun {x is} hx=>by
     obtain ⟨k,hk,h⟩:=List.mem_filterMap.1 hx
     exact ⟨k,hk,h⟩
    have hq':regQ P ops (opsAt ops A ++ o :: opsAt ops C) st (fun s=>∃ s0,Al s0 s /\ regQ P ops (ops.toList.drop m) s0 K):=by
     have:opsAt ops (remN listed m)=opsAt ops A ++ o :: opsAt ops C:=by
      unfold remN
      rw [hA]
      simp [opsAt,List.filterMap_append,ho]
     rw [<- this]
     exact hq
    have hfront:=regQ_front hKT hoV (C:=opsAt ops C) (fun x hx=>by
     obtain ⟨k,hk,hkx⟩:=hat hx
     exact hpre k x (hmemC k hk) hkx) (opsAt ops A) (fun x hx=>by
     obtain ⟨k,hk,hkx⟩:=hat hx
     obtain ⟨hkm,hkl⟩:=hmemA k hk
     have hki:=hAi k hk
     have hxV:=hpre k x hkm hkx
     refine ⟨hxV,?_,fun d hd hm=>?_,fun d hd hm=>?_,fun he=>?_⟩
     ·rcases okV_split hxV with h1 | ⟨_,cx,_⟩
      ·exact .inl h1
      ·rcases okV_split hoV with h2 | ⟨_,co,_⟩
       ·exact .inr h2
       ·exfalso
        have:=bringOk_eff heff (n:=m) (fun j p hj hp=>okV_eff (hpre j p hj hp)) k i x o him hkx ho hki (by unfold bringV;rw [cx];rfl) (by unfold bringV;rw [co];rfl) listed hcl hedge'
        rw [hkl] at this
        cases this
     ·have hl:d ∈ Oper.looks ops o:=by
       unfold Oper.looks
       exact List.mem_append_left _ (List.mem_filterMap.2 ⟨.tmp d,Array.mem_toList_iff.2 hm,rfl⟩)
      rcases (hs2 k i x o hkx ho).2 d hd hl with ⟨e,hem,hb,hon⟩ | ⟨hik,_⟩
      ·have:=hedge' e hem hb
       rw [hon,hkl] at this
       cases this
      ·omega
     ·have hl:d ∈ Oper.looks ops x:=by
       unfold Oper.looks
       exact List.mem_append_left _ (List.mem_filterMap.2 ⟨.tmp d,Array.mem_toList_iff.2 hm,rfl⟩)
      rcases (hs2 i k o x ho hkx).2 d hd hl with ⟨e,hem,hb,hon⟩ | ⟨_,e,hem,hb,hon⟩
      ·have:=hback k x hkx e hem hb
       omega
      ·have:=hedge' e hem hb
       rw [hon,hkl] at this
       cases this
     ·obtain ⟨d,hd⟩:=okV_dst hxV
      have:=uniq_of hok hkx ho hd he
      omega) hq'
    have hwp:=stepQ_wp (Q:=Q) (next:=wpAny P .any ops Q fuel (listed.setIfInBounds i true)) sr (hdN i o · ho) hfront (fun β' φ' w' st' x sr' hK=>by
     refine ih (listed.setIfInBounds i true) (by simpa using hsz) (by have:=cnt_set listed i hun ops.size hin;omega) (closed_set hsz ho hin hedge' hcl) (fun k hk hkn=>by rw [getD_set_ne true (by omega)];exact hhi k hk hkn) sr' ?_
     have:opsAt ops (remN (listed.setIfInBounds i true) m)=opsAt ops A ++ opsAt ops C:=by
      unfold remN
      rw [hC]
      simp [opsAt,List.filterMap_append]
     rw [this]
     exact hK)
    unfold wpOp
    rw [ho]
    simp only
    split at hwp
    ·rename_i hw
     rw [if_pos hw]
     exact .inl hwp
    ·rename_i hw
     rw [if_neg hw]
     exact hwp

theorem regQ_app {ops:Array Oper} {K:St -> Prop} (L2:List Oper):∀ (L1:List Oper) (s:St),regQ P ops (L1 ++ L2) s K=regQ P ops L1 s fun s=>regQ P ops L2 s K
 | [],s=>rfl
 | o :: L1,s=>by
  show (stepQ P ops s o fun s'=>regQ P ops (L1 ++ L2) s' K)=stepQ P ops s o fun s'=>regQ P ops L1 s' fun s=>regQ P ops L2 s K
  congr 1
  funext s'
  exact regQ_app L2 L1 s'
theorem regQ_mono {ops:Array Oper} {K K':St -> Prop} (hk:∀ s,K s -> K' s):∀ (L:List Oper),(∀ o ∈ L,okV o=true) -> ∀ s,regQ P ops L s K -> regQ P ops L s K'
 | [],_,s,h=>hk s h
 | o :: L,hL,s,h=>stepQ_mono (hL o (by simp)) (K:=fun s=>regQ P ops L s K) h fun s'=>regQ_mono hk L (fun x hx=>hL x (List.mem_cons_of_mem _ hx)) s'
theorem opsAt_range (ops:Array Oper):∀ m,opsAt ops (List.range m)=ops.toList.take m
 | 0=>rfl
 | m + 1=>by
  unfold opsAt
  rw [List.range_succ,List.filterMap_append,List.take_add_one]
  have:=opsAt_range ops m
  unfold opsAt at this
  rw [this]
  congr 1
  rw [Array.getElem?_toList]
  cases e:ops[m]? <;> simp [e]

theorem quiet_wp {ops:Array Oper} {id:Nat} {Q:Exit -> Act -> World -> Prop} {K:St -> Prop} (hm:P.follows .mixedOrders=true) (hok:drawOk ops N=true) (hqo:quietOk ops=true)
  (hQ:∀ st' β φ a w,SR B N st' β φ a w -> K st' -> Q .normal a w) (h:SR B N st β φ a w) (hq:regQ P ops ops.toList st K):RegW P id ops true Q a w:=by
 unfold quietOk at hqo
 simp only [Bool.and_eq_true,Bool.or_eq_true,decide_eq_true_eq] at hqo
 obtain ⟨⟨_,heff⟩,hseq⟩:=hqo
 have hle:quietN ops.toList <= ops.size:=by rw [<- Array.length_toList];exact quietN_le _
 have hf:∀ k,k < ops.size -> (Array.replicate ops.size false).getD k true=false:=fun k hk=>by
  rw [Array.getD_eq_getD_getElem?,Array.getElem?_eq_getElem (by simpa using hk)]
  simp
 refine regW_any hm (quiet_any hok heff hle (fun j o hj ho=>quietN_ok ops.toList j o hj (by simpa using ho)) hseq hQ ops.size _ (by simp) (cnt_replicate _ _ (Nat.le_refl _)) (fun j o ho hj=>absurd hj (by rw [hf j (Array.getElem?_eq_some_iff.1 ho).1];simp)) (fun k _ hk=>hf k hk) h.drew.2 ?_)
 have hrem:remN (Array.replicate ops.size false) (quietN ops.toList)=List.range (quietN ops.toList):=by
  unfold remN
  rw [List.filter_eq_self]
  intro k hk
  rw [hf k (by have:=List.mem_range.1 hk;omega)]
  rfl
 rw [hrem,opsAt_range]
 refine regQ_mono (K:=fun s=>regQ P ops (ops.toList.drop (quietN ops.toList)) s K) (fun s hs=>⟨s,Al.refl s,hs⟩) _ (fun o ho=>?_) st ?_
 ·obtain ⟨j,hj⟩:=List.mem_iff_getElem?.1 ho
  rw [List.getElem?_take] at hj
  split at hj
  ·rename_i hlt
   exact quietN_ok ops.toList j o hlt hj
  ·cases hj
 ·rw [<- regQ_app,List.take_append_drop]
  exact hq

def quietL:List Oper -> Nat -> Bool
 | [],n=>decide (2 <= n)
 | o :: r,n=>bif okV o then quietL r (bif callV o.op then n + 1 else n) else decide (2 <= n)
def chainL:List Oper -> Nat -> Bool
 | [],_=>false
 | o :: r,n=>bif okV o then chainL r (bif callV o.op then n + 1 else n) else decide (n=1) && litV o.op
theorem chain_wp {ops:Array Oper} {id:Nat} {Q:Exit -> Act -> World -> Prop} {K:St -> Prop} (hm:P.follows .mixedOrders=true) (hok:drawOk ops N=true) (hseq:seqOk ops 0=true)
  (hQ:∀ st' β φ a w,SR B N st' β φ a w -> K st' -> Q .normal a w) (h:SR B N st β φ a w) (hq:regQ P ops ops.toList st K):RegW P id ops true Q a w:=by
 have hf:∀ k,k < ops.size -> (Array.replicate ops.size false).getD k true=false:=fun k hk=>by
  rw [Array.getD_eq_getD_getElem?,Array.getElem?_eq_getElem (by simpa using hk)]
  simp
 obtain ⟨hs1,_⟩:=drawOk_spec hok
 exact regW_any hm (seq_wp hseq (fun j o d ho hd=>(hs1 j o ho).1.1 d hd) (fun j o ho=>(hs1 j o ho).2) hQ ops.size 0 _ (Nat.le_refl _) (Nat.zero_le _) (by simp) (cnt_replicate _ _ (Nat.le_refl _))
  (fun k hk=>by rw [hf k hk];simp) h.drew.2 (by simpa using hq))
end
end Go.Abs
