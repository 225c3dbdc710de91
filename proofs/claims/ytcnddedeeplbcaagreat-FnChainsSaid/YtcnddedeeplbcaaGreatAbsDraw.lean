/- Regions: in the order of the text, and in whatever order. -/
import Derived.Test.YtcnddedeeplbcaaGreatAbsRound
namespace Go.Abs
set_option linter.unusedVariables false
set_option linter.unusedSimpArgs false

def regQ (P:Program) (ops:Array Oper):List Oper -> St -> (St -> Prop) -> Prop
 | [],st,Q=>Q st
 | o :: r,st,Q=>stepQ P ops st o fun st'=>regQ P ops r st' Q

def stepD (P:Program) (ops:Array Oper) (st:St) (o:Oper) (K:AV -> Prop):Prop :=
 match o.guard with
 | none =>
  if pureOp o.op then
   match opS P st o with
   | some (q,some r,_)=>q /\ K r
   | _=>False
  else condCall P st o true K
 | some (j,want)=>match guardA ops st j want with
  | none=>False
  | some g =>
   if pureOp o.op then
    match opS P st o with
    | some (q,some r,_)=>r.isPV=true /\ (g=true -> q) /\ K (.ifg g r)
    | _=>False
   else condCall P st o g fun r=>K (.ifg g r)

def effOp:Op -> Bool
 | .call { callee:=.value _,.. }=>false
 | o=>!pureOp o

def isAlloc:Op -> Bool
 | .alloc _=>true
 | _=>false

def effT (o:Op):Bool:=effOp o && !isAlloc o

def seqOk (ops:Array Oper) (m:Nat):Bool :=
 (List.range ops.size).all fun j=>decide (j < m) || (List.range j).all fun i=>ops.toList.zipIdx.any fun (p,k)=>decide (i < k) && decide (k <= j) && p.after.any fun e=>Region.binds .any e && e.on == i

def callV:Op -> Bool
 | .call { callee:=.value _,.. }=>true
 | _=>false

def litV:Op -> Bool
 | .buildSlice ..=>true
 | _=>false
def bringV (o:Op):Bool:=callV o || litV o

def effOk (ops:Array Oper):Bool :=
 ops.toList.zipIdx.all fun (o,j)=>!callV o.op || ops.toList.zipIdx.all fun (p,i)=>!(decide (i < j) && callV p.op) ||
  ops.toList.zipIdx.any fun (q,k)=>decide (i <= k) && decide (k < j) && callV q.op && o.after.any fun e=>Region.binds .any e && e.on == k

def EffK (P:Program) (st:St) (fid:FuncId) (avs:List AV) (K:AV -> St -> Prop):Prop :=
 ∃ vs r objs',viewAs st [] avs=some vs /\ enters P fid=true /\ Ctr P fid vs [] r objs' /\ K (r.ren (fresh st.next objs'.length)) (st.after [] objs')

def effQ (P:Program) (st:St) (o:Oper) (K:AV -> St -> Prop):Prop :=
 match callee st o with
 | some (q,fid,avs)=>q /\ EffK P st fid avs K
 | none=>False

def resvObj (P:Program) (t:TypeId):AObj :=
 match tz P t with
 | some ds=>.box (ds.map zleaf)
 | none=>.dead
def resv (P:Program):List Oper -> St -> St
 | [],st=>st
 | o :: r,st=>match o.op with
  | .alloc t=>resv P r (st.addObj (resvObj P t))
  | op=>if effOp op then st else resv P r st
def resvIds:List Oper -> Nat -> List Nat
 | [],_=>[]
 | o :: r,n=>match o.op with
  | .alloc _=>n :: resvIds r (n + 1)
  | op=>if effOp op then [] else resvIds r n

def allocQ (P:Program) (st:St) (o:Oper) (m:Nat) (K:St -> Prop):Prop :=
 match o.op with
 | .alloc t=>match tz P t with
  | some ds=>o.guard.isNone=true /\ st.obj m=.box (ds.map zleaf) /\ K (st.putO o.dst (some (.one (.ptr (.own m 0 0)))))
  | none=>False
 | _=>False

def drawE (P:Program) (ops:Array Oper):List Oper -> St -> List Nat -> (St -> Prop) -> Prop
 | [],st,ms,Q=>ms=[] /\ Q st
 | o :: r,st,ms,Q=>if isAlloc o.op && !ms.isEmpty then allocQ P st o (ms.headD 0) fun st'=>drawE P ops r st' ms.tail Q
  else if effOp o.op then seqOk ops (ops.size - (r.length + 1))=true /\ ms=[] /\ regQ P ops (o :: r) st Q
  else if callV o.op && o.guard.isNone then condCall P st o true (fun v=>drawE P ops r (st.putO o.dst (some v)) ms Q) \/ effQ P st o (fun v st'=>drawE P ops r (st'.putO o.dst (some v)) ms Q)
  else stepD P ops st o fun v=>drawE P ops r (st.putO o.dst (some v)) ms Q

def drawQ (P:Program) (ops:Array Oper):List Oper -> St -> (St -> Prop) -> Prop
 | [],st,Q=>Q st
 | o :: r,st,Q=>if effOp o.op then seqOk ops (ops.size - (r.length + 1))=true /\ effOk ops=true /\ regQ P ops (o :: r) st Q
  else if callV o.op && o.guard.isNone then condCall P st o true (fun v=>drawQ P ops r (st.putO o.dst (some v)) Q) \/ (effOk ops=true /\ effQ P st o fun v st'=>drawE P ops r (st'.putO o.dst (some v)) [] Q)
  else stepD P ops st o fun v=>drawQ P ops r (st.putO o.dst (some v)) Q

def drawX (P:Program) (ops:Array Oper) (st:St) (Q:St -> Prop):Prop :=
 if (resvIds ops.toList st.next).isEmpty then drawQ P ops ops.toList st Q
 else effOk ops=true /\ drawE P ops ops.toList (resv P ops.toList st) (resvIds ops.toList st.next) Q

def Oper.looks (ops:Array Oper) (o:Oper):List Tmp :=
 (o.op.operands.toList.filterMap fun | .tmp t=>some t | _=>none) ++
 (match o.guard with
  | some (j,_)=>((ops[j]?).bind (·.dst)).toList
  | none=>[])

def drawOk (ops:Array Oper) (N:Nat):Bool :=
 ops.toList.zipIdx.all fun (o,j) =>
  (match o.dst with | some d=>decide (d < N) | none=>ops.toList.zipIdx.any fun (p,i)=>decide (i <= j) && effT p.op) &&
  (o.after.all fun e=>!Region.binds .any e || decide (e.on < j)) &&
  ops.toList.zipIdx.all fun (p,i) =>
   (i == j || p.dst.isNone || !(p.dst == o.dst)) &&
   (match p.dst with
    | some d=>!((Oper.looks ops o).contains d) || (o.after.any fun e=>Region.binds .any e && e.on == i) || (decide (j < i) && p.after.any fun e=>Region.binds .any e && e.on == j)
    | none=>true)

section
variable {P:Program} {B:Base} {N:Nat} {st st':St} {β:Nat -> Info} {φ:Nat -> List Nat} {a:Act} {w w':World}

theorem regQ_wp {ops:Array Oper} {Q:Exit -> Act -> World -> Prop} {K:St -> Prop} (hN:∀ (j:Nat) (o:Oper),ops[j]?=some o -> ∀ t,o.dst=some t -> t < N)
  (hQ:∀ st' β φ a w,SR B N st' β φ a w -> K st' -> Q .normal a w):∀ (l:List Oper) (k:Nat),(∀ j:Nat,l[j]?=ops[k + j]?) -> ∀ {st:St} {β:Nat -> Info} {φ:Nat -> List Nat} {a:Act} {w:World},SR B N st β φ a w -> regQ P ops l st K ->
    wpOps P ops Q (List.range' k l.length) a w
 | [],k,hl,st,β,φ,a,w,h,hq=>hQ _ _ _ _ _ h hq
 | o :: l,k,hl,st,β,φ,a,w,h,hq=>by
  have h0:ops[k]?=some o:=by simpa using (hl 0).symm
  rw [List.length_cons,List.range'_succ,wpOps_cons]
  unfold wpOp
  rw [h0]
  simp only
  have:=stepQ_wp (Q:=Q) (next:=wpOps P ops Q (List.range' (k + 1) l.length)) h (hN k o h0) hq (fun β' φ' w' st' x sr hK =>
   regQ_wp hN hQ l (k + 1) (fun j=>by have:=hl (j + 1);simpa [Nat.add_assoc,Nat.add_comm 1 j] using this) sr hK)
  split at this
  ·rename_i hw
   rw [if_pos hw]
   exact .inl this
  ·rename_i hw
   rw [if_neg hw]
   exact this

theorem region_wp {ops:Array Oper} {id:Nat} {Q:Exit -> Act -> World -> Prop} {K:St -> Prop} (hN:∀ (j:Nat) (o:Oper),ops[j]?=some o -> ∀ t,o.dst=some t -> t < N)
  (hQ:∀ st' β φ a w,SR B N st' β φ a w -> K st' -> Q .normal a w) (h:SR B N st β φ a w) (hq:regQ P ops ops.toList st K):RegW P id ops false Q a w:=by
 refine regW_ops ?_
 rw [List.range_eq_range']
 have:=regQ_wp (P:=P) hN hQ ops.toList 0 (fun j=>by simp) h hq
 simpa using this

theorem opA_env {env:List (Nat × AV)} {x:Operand} (h:∀ t,x=.tmp t -> find env t=find st.env t):opA { st with env:=env } x=opA st x:=by
 cases x with
 | tmp t=>simp only [opA];rw [h t rfl]
 | const v=>rfl
 | func f=>rfl
 | global g=>rfl

theorem un_env {env:List (Nat × AV)} {x:Operand} {k k2:AV -> Out} {q:Prop} {r:Option AV} {s:St} (h:∀ t,x=.tmp t -> find env t=find st.env t) (hu:un st x k=some (q,r,s))
  (hk:∀ v q r s,k v=some (q,r,s) -> ∃ s2,k2 v=some (q,r,s2)):∃ s2,un { st with env:=env } x k2=some (q,r,s2):=by
 unfold un at hu ⊢
 rw [opA_env h]
 split at hu
 ·rename_i p v ev
  split at hu
  ·rename_i q' r' s' e
   cases hu
   obtain ⟨s2,h2⟩:=hk _ _ _ _ e
   try rw [ev]
   try simp only
   rw [h2]
   exact ⟨s2,rfl⟩
  ·cases hu
 ·cases hu

theorem obj_env (env:List (Nat × AV)) (o:Nat):({ st with env:=env }:St).obj o=st.obj o:=rfl

def reSt (s2:St):Prop × Option AV × St -> Prop × Option AV × St:=fun x=>(x.1,x.2.1,s2)

theorem ex_of_map {f g:Out} {s2:St} (h:g=f.map (reSt s2)) {q:Prop} {r:Option AV} {s:St} (hf:f=some (q,r,s)):∃ s2,g=some (q,r,s2):=⟨s2,by rw [h,hf];rfl⟩

theorem ldp_env (env:List (Nat × AV)) (agg:Bool) (s:Nat) (p:Ptr):ldp { st with env:=env } agg s p=ldp st agg s p:=by
 cases p <;> rfl

theorem sliceS_env (env:List (Nat × AV)) (t:TypeId) (v:AV) (l h m:Option AV):sliceS P { st with env:=env } t v l h m=(sliceS P st t v l h m).map (reSt { st with env:=env }):=by
 unfold sliceS
 simp only [obj_env]
 repeat' split
 all_goals first | rfl | (rename_i h;exact (h _ _ _ _ rfl).elim) | simp_all [reSt]

theorem un?_env {env:List (Nat × AV)} {x:Option Operand} (h:∀ t,x=some (.tmp t) -> find env t=find st.env t) {k k':Option AV -> Out} {q:Prop} {r:Option AV} {s:St} (hu:un? st x k=some (q,r,s))
  (hk:∀ v q r s,k v=some (q,r,s) -> ∃ s2,k' v=some (q,r,s2)):∃ s2,un? { st with env:=env } x k'=some (q,r,s2):=by
 cases x with
 | none=>exact hk _ _ _ _ hu
 | some x=>exact un_env (fun t e=>h t (by rw [e])) hu fun v q r s e=>hk _ _ _ _ e

theorem evP_same {s1 s2:St}:∀ {ps:List (Nat × Operand)},(∀ p ∈ ps,opA s1 p.2=opA s2 p.2) -> evP s1 ps=evP s2 ps
 | [],_=>rfl
 | (i,x) :: ps,h=>by
  simp only [evP]
  rw [h (i,x) (by simp),evP_same (ps:=ps) fun p hp=>h p (by simp [hp])]

theorem buildS_same {s1 s2:St} {t:TypeId} {parts:Array (Nat × Operand)} (h:∀ p ∈ parts.toList,opA s1 p.2=opA s2 p.2):buildS P s1 t parts=(buildS P s2 t parts).map (reSt s1):=by
 unfold buildS
 rw [evP_same h]
 split
 ·split <;> rfl
 ·rfl

theorem capS_same {s1 s2:St}:∀ {xs:List Operand},(∀ x ∈ xs,opA s1 x=opA s2 x) -> capS s1 xs=capS s2 xs
 | [],_=>rfl
 | x :: xs,h=>by
  simp only [capS]
  rw [h x (by simp),capS_same fun y hy=>h y (by simp [hy])]

theorem opS_env {env:List (Nat × AV)} {o:Oper} {q:Prop} {r:Option AV} {s:St} (hp:pureOp o.op=true) (hag:∀ t,Operand.tmp t ∈ o.op.operands -> find env t=find st.env t)
  (h:opS P st o=some (q,r,s)):∃ s2,opS P { st with env:=env } o=some (q,r,s2):=by
 unfold opS at h ⊢
 split at h <;> rename_i eo <;> first | (rw [eo] at hp hag;simp only [pureOp] at hp) | (cases h;done)
 all_goals try (cases hp;done)
 all_goals try simp only [eo]
 ·exact un_env (fun t e=>hag t (by subst e;simp [Op.operands])) h fun v q r s e=>by cases e;exact ⟨_,rfl⟩
 ·exact un_env (fun t e=>hag t (by subst e;simp [Op.operands])) h fun v q r s e=>by cases e;exact ⟨_,rfl⟩
 ·unfold pickS at h ⊢
  rw [opA_env (fun t e=>hag t (by subst e;simp [Op.operands])),opA_env (fun t e=>hag t (by subst e;simp [Op.operands])),opA_env (fun t e=>hag t (by subst e;simp [Op.operands]))]
  split at h
  ·cases h;exact ⟨_,rfl⟩
  ·cases h
 ·rename_i t parts
  refine ex_of_map (s2:={ st with env:=env }) (buildS_same fun p hp=>?_) h
  exact opA_env fun t e=>hag t (by
   simp only [Op.operands]
   exact List.mem_toArray.2 (List.mem_map.2 ⟨p,hp,e⟩))
 ·refine un_env (fun t e=>hag t (by subst e;simp [Op.operands])) h fun v q r s e=>?_
  refine ex_of_map (s2:={ st with env:=env }) ?_ e
  have hsep:∀ (t:TypeId) (p:Ptr),sepSl P { st with env:=env } t p=sepSl P st t p:=fun t p=>by cases p <;> rfl
  unfold loadS
  simp only [ldp_env,hsep]
  split
  ·split
   ·rfl
   split
   ·split
    ·cases ldp st _ _ _ <;> rfl
    ·rfl
   ·rfl
  ·rfl
 ·refine un_env (fun t e=>hag t (by subst e;simp [Op.operands])) h fun v q r s e=>un_env (fun t e=>hag t (by subst e;simp [Op.operands])) e fun v q r s e=>?_
  refine ex_of_map (s2:={ st with env:=env }) ?_ e
  unfold binS
  split
  ·split <;> rfl
  ·split
   ·split <;> rfl
   ·split <;> rfl
   ·rfl
  ·rfl
 ·refine un_env (fun t e=>hag t (by subst e;simp [Op.operands])) h fun v q r s e=>?_
  refine ex_of_map (s2:={ st with env:=env }) ?_ e
  unfold unS
  split
  ·split <;> rfl
  ·split <;> rfl
  ·rfl
 ·refine un_env (fun t e=>hag t (by subst e;simp [Op.operands])) h fun v q r s e=>?_
  refine ex_of_map (s2:={ st with env:=env }) ?_ e
  unfold convS
  simp only [obj_env]
  split
  ·split <;> rfl
  ·split <;> rfl
  ·split
   ·rw [Option.map_map];rfl
   ·rfl
  ·split
   ·split
    ·rw [Option.map_map];rfl
    ·rfl
   ·rfl
  ·rfl
 ·rename_i f first caps
  split at h
  ·rename_i hf
   rw [if_pos hf]
   rw [capS_same (s1:={ st with env:=env }) (s2:=st) fun x hx=>opA_env fun t e=>hag t (by subst e;simp [Op.operands];exact .inr (Array.mem_toList_iff.1 hx))]
   rw [Option.map_eq_some_iff] at h
   obtain ⟨y,h1,h2⟩:=h
   cases h2
   rw [h1]
   exact ⟨_,rfl⟩
  ·cases h
 ·exact un_env (fun t e=>hag t (by subst e;simp [Op.operands])) h fun v q r s e=>un?_env (fun t e=>hag t (by subst e;simp [Op.operands])) e fun v q r s e =>
   un?_env (fun t e=>hag t (by subst e;simp [Op.operands])) e fun v q r s e=>un?_env (fun t e=>hag t (by subst e;simp [Op.operands])) e fun v q r s e=>ex_of_map (sliceS_env _ _ _ _ _ _) e
 ·refine un_env (fun t e=>hag t (by subst e;simp [Op.operands])) h fun v q r s e=>?_
  refine ex_of_map (s2:={ st with env:=env }) ?_ e
  unfold faddrS
  simp only [obj_env]
  split
  ·split
   ·rfl
   ·cases tf P _ _ <;> rfl
  ·cases tf P _ _ <;> rfl
  ·rfl
 ·refine un_env (fun t e=>hag t (by subst e;simp [Op.operands])) h fun v q r s e=>?_
  refine ex_of_map (s2:={ st with env:=env }) ?_ e
  unfold fieldS
  split
  ·split <;> rfl
  ·rfl
 ·refine un_env (fun t e=>hag t (by subst e;simp [Op.operands])) h fun v q r s e=>un_env (fun t e=>hag t (by subst e;simp [Op.operands])) e fun v q r s e=>?_
  refine ex_of_map (s2:={ st with env:=env }) ?_ e
  unfold iaddrS
  simp only [obj_env]
  split
  ·split
   ·split <;> rfl
   ·rfl
  ·split
   ·split <;> rfl
   ·rfl
  ·split <;> rfl
  ·split
   ·split <;> rfl
   ·rfl
  ·split <;> rfl
  ·rfl
 ·refine un_env (fun t e=>hag t (by subst e;simp [Op.operands])) h fun v q r s e=>un_env (fun t e=>hag t (by subst e;simp [Op.operands])) e fun v q r s e=>?_
  refine ex_of_map (s2:={ st with env:=env }) ?_ e
  unfold indexS
  split
  ·split <;> rfl
  ·split
   ·split <;> rfl
   ·rfl
  ·rfl
 ·refine un_env (fun t e=>hag t (by subst e;simp [Op.operands])) h fun v q r s e=>?_
  refine ex_of_map (s2:={ st with env:=env }) ?_ e
  unfold extractS
  split
  ·split <;> rfl
  ·rfl
 ·refine un_env (fun t e=>hag t (by subst e;simp [Op.operands])) h fun v q r s e=>?_
  refine ex_of_map (s2:={ st with env:=env }) ?_ e
  unfold nilS
  simp only [obj_env]
  split
  ·split <;> rfl
  ·rfl
 ·rename_i b args ts
  have hargs:∀ t,Operand.tmp t ∈ args -> find env t=find st.env t:=fun t ht=>hag t (by simp [Op.operands,Call.operands];exact ht)
  have hlen:∀ (v:AV),lenS { st with env:=env } v=(lenS st v).map (reSt { st with env:=env }):=fun v=>by
   unfold lenS
   simp only [obj_env]
   split
   ·split <;> rfl
   ·split <;> rfl
   all_goals rfl
  have hmm:∀ (m:Bool) (u v:AV),minmaxS { st with env:=env } m u v=(minmaxS st m u v).map (reSt { st with env:=env }):=fun m u v=>by
   unfold minmaxS
   split <;> rfl
  unfold builtinS at h ⊢
  split at h
  ·rename_i x hx
   have hxm:∀ t,x=.tmp t -> find env t=find st.env t:=fun t e=>hargs t (by rw [<- Array.mem_toList_iff,hx,e];simp)
   split at h
   ·try simp only
    refine un_env hxm h fun v q r s e=>?_
    split at e
    ·split at e
     ·rename_i hc
      simp only [hc,if_true]
      exact ex_of_map (hlen _) e
     ·cases e
    ·split at e
     ·rename_i hc
      simp only [hc,if_true]
      exact ex_of_map (hlen _) e
     ·cases e
   ·cases hp
   ·cases hp
   ·cases h
  ·rename_i x y hx
   have hxm:∀ t,x=.tmp t -> find env t=find st.env t:=fun t e=>hargs t (by rw [<- Array.mem_toList_iff,hx,e];simp)
   have hym:∀ t,y=.tmp t -> find env t=find st.env t:=fun t e=>hargs t (by rw [<- Array.mem_toList_iff,hx,e];simp)
   split at h
   ·cases hp
   ·cases hp
   ·exact un_env hxm h fun v q r s e=>un_env hym e fun v q r s e=>ex_of_map (hmm _ _ _) e
   ·exact un_env hxm h fun v q r s e=>un_env hym e fun v q r s e=>ex_of_map (hmm _ _ _) e
   ·cases h
  ·cases h

theorem leafD_env (env:List (Nat × AV)) (os:List Nat) (l:Leaf):leafD { st with env:=env } os l=leafD st os l:=by cases l <;> rfl
theorem leavesD_env (env:List (Nat × AV)) (os:List Nat):∀ ls:List Leaf,leavesD { st with env:=env } os ls=leavesD st os ls
 | []=>rfl
 | l :: ls=>by simp only [leavesD];rw [leafD_env,leavesD_env env os ls]
theorem viewP_env (env:List (Nat × AV)) (os:List Nat) (p:Ptr):viewP { st with env:=env } os p=viewP st os p:=by
 cases p with
 | ro sz rows i j=>rfl
 | own o i j=>simp only [viewP,obj_env,leavesD_env]
theorem viewPs_env (env:List (Nat × AV)) (os:List Nat):∀ ps:List Ptr,viewPs { st with env:=env } os ps=viewPs st os ps
 | []=>rfl
 | p :: ps=>by simp only [viewPs];rw [viewP_env,viewPs_env env os ps]
theorem viewL_env (env:List (Nat × AV)) (os:List Nat) (l:Leaf):viewL { st with env:=env } os l=viewL st os l:=by
 cases l with
 | dat d=>rfl
 | emp=>rfl
 | own o=>rfl
 | part o i n=>rfl
 | ptr p=>simp only [viewL,viewP_env]
 | fn f caps=>simp only [viewL,viewPs_env]
theorem viewLs_env (env:List (Nat × AV)) (os:List Nat):∀ ls:List Leaf,viewLs { st with env:=env } os ls=viewLs st os ls
 | []=>rfl
 | l :: ls=>by simp only [viewLs];rw [viewL_env,viewLs_env env os ls]
theorem viewA_env (env:List (Nat × AV)) (os:List Nat) (v:AV):viewA { st with env:=env } os v=viewA st os v:=by
 cases v with
 | one l=>simp only [viewA,viewL_env]
 | agg ls=>simp only [viewA,viewLs_env]
 | tup vs=>rfl
 | ifg b v=>rfl
theorem viewAs_env (env:List (Nat × AV)) (os:List Nat):∀ vs:List AV,viewAs { st with env:=env } os vs=viewAs st os vs
 | []=>rfl
 | v :: vs=>by simp only [viewAs];rw [viewA_env,viewAs_env env os vs]

theorem evAs_env {env:List (Nat × AV)}:∀ {xs:List Operand},(∀ t,Operand.tmp t ∈ xs -> find env t=find st.env t) -> evAs { st with env:=env } xs=evAs st xs
 | [],_=>rfl
 | x :: xs,h=>by
  simp only [evAs]
  rw [opA_env (fun t e=>h t (by subst e;simp)),evAs_env (fun t ht=>h t (List.mem_cons_of_mem _ ht))]

theorem callee_env {env:List (Nat × AV)} {o:Oper} (hag:∀ t,Operand.tmp t ∈ o.op.operands -> find env t=find st.env t):callee { st with env:=env } o=callee st o:=by
 unfold callee
 split
 ·rename_i f args ts eo
  rw [eo] at hag
  rw [opA_env (fun t e=>hag t (by subst e;simp [Op.operands,Call.operands])),evAs_env (fun t ht=>hag t (by simp [Op.operands,Call.operands];right;exact Array.mem_toList_iff.1 ht))]
 ·rfl

theorem condCall_mono {o:Oper} {g:Bool} {K K':AV -> Prop} (h:∀ v,K v -> K' v) (hc:condCall P st o g K):condCall P st o g K':=by
 unfold condCall at *
 split at hc
 ·obtain ⟨r,a,b,c⟩:=hc
  exact ⟨r,a,b,h r c⟩
 ·exact hc.elim

theorem condCall_ex {o:Oper} {g:Bool} {K:AV -> Prop} (hc:condCall P st o g K):∃ v,condCall P st o g (·=v) /\ K v:=by
 unfold condCall at *
 split at hc
 ·obtain ⟨r,a,b,c⟩:=hc
  exact ⟨r,⟨r,a,b,rfl⟩,c⟩
 ·exact hc.elim

theorem condCall_env {env:List (Nat × AV)} {o:Oper} {g:Bool} {K:AV -> Prop} (hag:∀ t,Operand.tmp t ∈ o.op.operands -> find env t=find st.env t) (hc:condCall P st o g K):condCall P { st with env:=env } o g K:=by
 unfold condCall at *
 rw [callee_env hag]
 split at hc
 ·rename_i q fid avs e
  try rw [e]
  simp only [viewAs_env]
  exact hc
 ·exact hc.elim

theorem guardA_env {env:List (Nat × AV)} {ops:Array Oper} {j:Nat} {want:Bool} (h:∀ d,(ops[j]?).bind (·.dst)=some d -> find env d=find st.env d):guardA ops { st with env:=env } j want=guardA ops st j want:=by
 unfold guardA
 cases e:(ops[j]?).bind (·.dst) with
 | none=>rfl
 | some d=>simp only;rw [h d e]

theorem stepD_ex {ops:Array Oper} {o:Oper} {K:AV -> Prop} (h:stepD P ops st o K):∃ v,stepD P ops st o (·=v) /\ K v:=by
 unfold stepD at *
 split at h
 ·rename_i eg
  split at h
  ·split at h
   ·rename_i q r s eo
    refine ⟨r,?_,h.2⟩
    simp_all
   ·exact h.elim
  ·rename_i hp
   obtain ⟨v,h1,h2⟩:=condCall_ex h
   refine ⟨v,?_,h2⟩
   simp_all
 ·rename_i j want eg
  split at h
  ·exact h.elim
  ·rename_i g ega
   split at h
   ·split at h
    ·rename_i q r s eo
     refine ⟨.ifg g r,?_,h.2.2⟩
     simp_all
    ·exact h.elim
   ·rename_i hp
    obtain ⟨v,h1,h2⟩:=condCall_ex h
    refine ⟨.ifg g v,?_,h2⟩
    simp only [ega,hp]
    exact condCall_mono (fun u hu=>by rw [hu]) h1

theorem stepD_env {env:List (Nat × AV)} {ops:Array Oper} {o:Oper} {K:AV -> Prop} (hag:∀ t ∈ Oper.looks ops o,find env t=find st.env t) (h:stepD P ops st o K):stepD P ops { st with env:=env } o K:=by
 have h1:∀ t,Operand.tmp t ∈ o.op.operands -> find env t=find st.env t:=fun t ht=>hag t (by
  unfold Oper.looks
  refine List.mem_append_left _ (List.mem_filterMap.2 ⟨.tmp t,Array.mem_toList_iff.2 ht,rfl⟩))
 unfold stepD at *
 split at h
 ·rename_i eg
  split at h
  ·rename_i hp
   split at h
   ·rename_i q r s eo
    obtain ⟨s2,h2⟩:=opS_env hp h1 eo
    simp only [hp,if_true,h2]
    exact h
   ·exact h.elim
  ·rename_i hp
   simp only [hp]
   exact condCall_env h1 h
 ·rename_i j want eg
  have h2:∀ d,(ops[j]?).bind (·.dst)=some d -> find env d=find st.env d:=fun d hd=>hag d (by
   unfold Oper.looks
   rw [eg]
   refine List.mem_append_right _ ?_
   simp only [hd]
   simp)
  split at h
  ·exact h.elim
  ·rename_i g ega
   rw [guardA_env h2]
   simp only [ega]
   split at h
   ·rename_i hp
    split at h
    ·rename_i q r s eo
     obtain ⟨s2,h3⟩:=opS_env hp h1 eo
     simp only [hp,if_true,h3]
     exact h
    ·exact h.elim
   ·rename_i hp
    simp only [hp]
    exact condCall_env h1 h

theorem stepD_wp (h:SR B N st β φ a w) {ops:Array Oper} {o:Oper} {v:AV} (hs:stepD P ops st o (·=v)) {next:Act -> World -> Prop} {Q:Exit -> Act -> World -> Prop}
  (hnext:∀ β' φ' w' x,SR B N st β' φ' a w' -> AVRel (st.ctx w' β' φ') v x -> next (a.put o.dst x) w') :
  if Region.wanted o (yielded ops a.tmps) then o.wp P a w next Q else next (a.put o.dst undef) w:=by
 have pure:∀ {q:Prop} {r:AV} {s:St},pureOp o.op=true -> opS P st o=some (q,some r,s) -> q -> (∀ β' φ' w' x,SR B N st β' φ' a w' -> AVRel (st.ctx w' β' φ') r x -> next (a.put o.dst x) w') -> o.wp P a w next Q:=fun {q r s} hp eo hq hn=>by
  have hst:=opS_pure hp eo
  subst hst
  obtain ⟨β',φ',w',le,sr,he,hres⟩:=opS_sound h eo hq
  rcases hres with ⟨r',z,hr',hrun,hv⟩ | ⟨hr',_⟩
  ·cases hr'
   unfold Oper.wp
   rw [hrun]
   exact hn β' φ' w' z sr hv
  ·cases hr'
 have call:∀ {r:AV},condCall P st o true (·=r) -> (∀ β' φ' w' x,SR B N st β' φ' a w' -> AVRel (st.ctx w' β' φ') r x -> next (a.put o.dst x) w') -> o.wp P a w next Q:=fun {r} hc hn=>by
  unfold condCall at hc
  split at hc
  ·rename_i q fid avs ec
   obtain ⟨r',hpv,hctr,rfl⟩:=hc
   obtain ⟨hq0,vs,hview,hen,hc⟩:=hctr rfl
   exact callV_wp h ec hq0 hview hen hc hpv hn
  ·exact hc.elim
 unfold stepD at hs
 split at hs
 ·rename_i eg
  have hw:Region.wanted o (yielded ops a.tmps)=true:=by unfold Region.wanted;rw [eg]
  rw [hw]
  simp only [if_true]
  split at hs
  ·rename_i hp
   split at hs
   ·rename_i q r s eo
    obtain ⟨hq,rfl⟩:=hs
    exact pure hp eo hq hnext
   ·exact hs.elim
  ·exact call hs hnext
 ·rename_i j want eg
  split at hs
  ·exact hs.elim
  ·rename_i g ega
   have hw:=guardA_sound h eg ega
   rw [hw]
   split at hs
   ·rename_i hp
    split at hs
    ·rename_i q r s eo
     obtain ⟨hpv,hq,rfl⟩:=hs
     cases g with
     | true =>
      simp only [if_true]
      exact pure hp eo (hq rfl) fun β' φ' w' x sr hv=>hnext β' φ' w' x sr ⟨fun _=>AV.pv hpv hv,fun hf=>by cases hf⟩
     | false =>
      simp only [Bool.false_eq_true,if_false]
      exact hnext β φ w undef h ⟨fun hf=>(by cases hf),fun _=>rfl⟩
    ·exact hs.elim
   ·cases g with
    | true =>
     simp only [if_true]
     obtain ⟨r,hr,hv⟩:=condCall_ex hs
     subst hv
     have hpl:r.plain=true:=by
      unfold condCall at hr
      split at hr
      ·obtain ⟨r',hpv,_,rfl⟩:=hr;exact hpv
      ·exact hr.elim
     exact call hr fun β' φ' w' x sr hv=>hnext β' φ' w' x sr ⟨fun _=>AV.pv (isPV_plain hpl) hv,fun hf=>by cases hf⟩
    | false =>
     simp only [Bool.false_eq_true,if_false]
     obtain ⟨r,hr,hv⟩:=condCall_ex hs
     subst hv
     exact hnext β φ w undef h ⟨fun hf=>(by cases hf),fun _=>rfl⟩

def effX (P:Program) (st:St) (o:Oper) (v:AV) (x:List AObj):Prop :=
 ∃ q fid avs vs r,callee st o=some (q,fid,avs) /\ q /\ viewAs st [] avs=some vs /\ enters P fid=true /\ Ctr P fid vs [] r x /\ v=r.ren (fresh st.next x.length)

def litL (P:Program) (st:St) (t:TypeId) (len:Nat) (parts:Array (Nat × Operand)):Option (Prop × List Leaf) :=
 match te P t,evP st parts.toList with
 | some (e,s,_),some (q,ps)=>match tz P e with
  | some zs=>match fillL (fun i=>some (i * s,s)) ((List.replicate len (zs.map zleaf)).flatten) ps with
   | some ls=>some (q /\ zs.length=s /\ len * s <= 16777216,ls)
   | none=>none
  | none=>none
 | _,_=>none
def litX (P:Program) (st:St) (o:Oper) (v:AV) (x:List AObj):Prop :=
 ∃ t len parts q ls,o.op=.buildSlice t len parts /\ litL P st t len parts=some (q,ls) /\ q /\ v=.one (.part st.next 0 len) /\ x=[.box ls]
def flatDs:List Leaf -> Option (List D)
 | []=>some []
 | .dat d :: r=>if d.flat=true then (flatDs r).map (d :: ·) else none
 | _ :: _=>none
def vlitX (P:Program) (st:St) (o:Oper) (v:AV) (x:List AObj):Prop :=
 ∃ t len parts q ls ds e s y zs,o.op=.buildSlice t len parts /\ litL P st t len parts=some (q,ls) /\ q /\ flatDs ls=some ds /\ ds.length=len * s /\ te P t=some (e,s,y) /\ tz P e=some zs /\ v=.one (.own st.next) /\ x=[.vec s true (chunks s len ds)]
def bringX (P:Program) (st:St) (o:Oper) (v:AV) (x:List AObj):Prop:=effX P st o v x \/ litX P st o v x \/ vlitX P st o v x
theorem flatDs_rep {C:Ctx}:∀ {ls:List Leaf} {ds:List D},flatDs ls=some ds -> ∀ {vs:List Value},Leaves C ls vs -> RepL C.w ds vs []
 | [],ds,h,vs,hL=>by
  cases h
  have:vs=[]:=List.eq_nil_of_length_eq_zero (by simpa using hL.1)
  subst this
  exact .nil
 | l :: ls,ds,h,vs,hL=>by
  cases l with
  | dat d =>
   simp only [flatDs] at h
   split at h
   ·rename_i hd
    obtain ⟨ds',h1,rfl⟩:=Option.map_eq_some_iff.1 h
    cases vs with
    | nil=>have:=hL.1;simp at this
    | cons v vs =>
     obtain ⟨v',hv',S,hS,_⟩:=hL.2 0 _ rfl
     simp at hv'
     subst hv'
     have h0:S=[]:=by
      have:=RepL.flat (RepL.cons hS .nil) (by simpa using hd)
      simpa using this
     subst h0
     have:=RepL.cons hS (flatDs_rep h1 (vs:=vs) ⟨by have:=hL.1;simpa using this,fun j l hl=>by have:=hL.2 (j + 1) l (by simpa using hl);simpa using this⟩)
     simpa using this
   ·cases h
  | _=>cases h

theorem effQ_ex {o:Oper} {K:AV -> St -> Prop} (h:effQ P st o K):∃ v x,effX P st o v x /\ K v (st.after [] x):=by
 unfold effQ at h
 split at h
 ·rename_i q fid avs e
  obtain ⟨hq,vs,r,objs',h1,h2,h3,h4⟩:=h
  exact ⟨_,objs',⟨q,fid,avs,vs,r,e,hq,h1,h2,h3,rfl⟩,h4⟩
 ·exact h.elim

theorem condCall_stepD {ops:Array Oper} {o:Oper} {K:AV -> Prop} (hc:callV o.op=true) (hg:o.guard.isNone=true) (h:condCall P st o true K):stepD P ops st o K:=by
 have hg':o.guard=none:=by simpa using hg
 have hp:pureOp o.op=false:=by
  unfold callV at hc
  split at hc
  ·rename_i e;rw [e];rfl
  ·cases hc
 unfold stepD
 rw [hg']
 simp only [hp]
 exact h

theorem effQ_wp (h:SR B N st β φ a w) {o:Oper} {K:AV -> St -> Prop} (hq:effQ P st o K) {next:Act -> World -> Prop} {Q:Exit -> Act -> World -> Prop}
  (hnext:∀ β' φ' w' st' r x,SR B N st' β' φ' a w' -> AVRel (st'.ctx w' β' φ') r x -> K r st' -> next (a.put o.dst x) w'):o.wp P a w next Q:=by
 have hcq:callQ P st o K:=by
  unfold effQ at hq
  unfold callQ
  split at hq
  ·rename_i q fid avs e
   try rw [e]
   obtain ⟨hq0,vs,r,objs',h1,h2,h3,h4⟩:=hq
   exact ⟨hq0,.inl ⟨[],vs,r,objs',h1,trivial,h2,h3,by simpa [idsOf] using h4⟩⟩
  ·exact hq.elim
 exact callQ_wp h hcq fun β' φ' w' st' r x le sr he hv hK=>hnext β' φ' w' st' r x sr hv hK

theorem effX_wp (h:SR B N st β φ a w) {o:Oper} {v:AV} {x:List AObj} (hx:effX P st o v x) {next:Act -> World -> Prop} {Q:Exit -> Act -> World -> Prop}
  (hnext:∀ β' φ' w' y,SR B N (st.after [] x) β' φ' a w' -> AVRel ((st.after [] x).ctx w' β' φ') v y -> next (a.put o.dst y) w'):o.wp P a w next Q:=by
 obtain ⟨q,fid,avs,vs,r,e,hq,h1,h2,h3,rfl⟩:=hx
 refine effQ_wp (K:=fun v' st'=>v'=r.ren (fresh st.next x.length) /\ st'=st.after [] x) h ?_ fun β' φ' w' st' r' y sr hv ⟨hr,hs⟩=>?_
 ·unfold effQ
  rw [e]
  exact ⟨hq,vs,r,x,h1,h2,h3,rfl,rfl⟩
 ·subst hr;subst hs
  exact hnext β' φ' w' y sr hv

def St.kn (s:St) (o:Nat):Prop:=o < s.next /\ s.obj o ≠ .hole
def Agr (sA sE:St):Prop:=∀ k,sA.obj k=sE.obj k \/ sE.obj k=.dead \/ ¬ sA.kn k
def PtrB (s:St):Ptr -> Prop
 | .own o _ _=>s.kn o
 | _=>True
def LeafB (s:St):Leaf -> Prop
 | .own o=>s.kn o
 | .part o _ _=>s.kn o
 | .ptr p=>PtrB s p
 | .fn _ caps=>∀ p ∈ caps,PtrB s p
 | _=>True
def AVB (s:St):AV -> Prop
 | .one l=>LeafB s l
 | .agg ls=>∀ l ∈ ls,LeafB s l
 | _=>True

theorem PtrRel.low {st:St} {w:World} {β:Nat -> Info} {φ:Nat -> List Nat} {p:Ptr} {x:Value} (h:PtrRel (st.ctx w β φ) p x):PtrB st p:=by
 cases p with
 | own o i j=>exact ⟨h.1,fun e=>by have h2:=h.2;rw [show (st.ctx w β φ).ob o=.hole from e] at h2;exact h2⟩
 | ro sz rows i j=>trivial

theorem LeafRel.low {st:St} {w:World} {β:Nat -> Info} {φ:Nat -> List Nat} {l:Leaf} {x:Value} (h:LeafRel (st.ctx w β φ) l x):LeafB st l:=by
 cases l with
 | own o=>exact ⟨h.1,fun e=>by have h2:=h.2;rw [show (st.ctx w β φ).ob o=.hole from e] at h2;exact h2⟩
 | part o i n=>exact ⟨h.1,fun e=>by have h2:=h.2;rw [show (st.ctx w β φ).ob o=.hole from e] at h2;exact h2⟩
 | ptr p=>exact PtrRel.low (p:=p) h
 | dat d=>trivial
 | emp=>trivial
 | fn f c =>
  obtain ⟨cvs,_,_,h3⟩:=h
  intro p hp
  obtain ⟨k,hk,rfl⟩:=List.mem_iff_getElem.1 hp
  obtain ⟨x,_,hx⟩:=h3 k _ (List.getElem?_eq_getElem hk)
  exact hx.low

theorem AVRel.low {st:St} {w:World} {β:Nat -> Info} {φ:Nat -> List Nat} {v:AV} {x:Value} (h:AVRel (st.ctx w β φ) v x):AVB st v:=by
 cases v with
 | one l=>exact LeafRel.low h
 | agg ls =>
  obtain ⟨vs,_,h2⟩:=h
  intro l hl
  obtain ⟨k,hk,rfl⟩:=List.mem_iff_getElem.1 hl
  obtain ⟨x,_,hx⟩:=h2.2 k _ (List.getElem?_eq_getElem hk)
  exact hx.low
 | tup vs=>trivial
 | ifg b v=>trivial

section agree
variable {sA sE:St}
theorem ob_eq (hob:Agr sA sE) {k:Nat} (hk:sA.kn k) (hd:sE.obj k ≠ .dead):sA.obj k=sE.obj k:=by
 rcases hob k with h | h | h
 ·exact h
 ·exact absurd h hd
 ·exact absurd hk h

theorem un_agree {x:Operand} {k k2:AV -> Out} {q:Prop} {r:Option AV} {s:St} (hx:opA sA x=opA sE x) (low:∀ p v,opA sA x=some (p,v) -> p -> AVB sA v) (hu:un sE x k=some (q,r,s)) (hq:q)
  (hk:∀ v q r s,AVB sA v -> k v=some (q,r,s) -> q -> ∃ s2,k2 v=some (q,r,s2)):∃ s2,un sA x k2=some (q,r,s2):=by
 unfold un at hu ⊢
 rw [hx]
 split at hu
 ·rename_i p v ev
  split at hu
  ·rename_i q' r' s' e
   cases hu
   obtain ⟨s2,h2⟩:=hk _ _ _ _ (low p v (hx.trans ev) hq.1) e hq.2
   try rw [ev]
   try simp only
   rw [h2]
   exact ⟨s2,rfl⟩
  ·cases hu
 ·cases hu

theorem un?_agree {x:Option Operand} {k k2:Option AV -> Out} {q:Prop} {r:Option AV} {s:St} (hx:∀ y,x=some y -> opA sA y=opA sE y) (low:∀ y,x=some y -> ∀ p v,opA sA y=some (p,v) -> p -> AVB sA v) (hu:un? sE x k=some (q,r,s)) (hq:q)
  (hk:∀ v q r s,k v=some (q,r,s) -> q -> ∃ s2,k2 v=some (q,r,s2)):∃ s2,un? sA x k2=some (q,r,s2):=by
 cases x with
 | none=>exact hk _ _ _ _ hu hq
 | some y=>exact un_agree (hx y rfl) (low y rfl) hu hq fun v q r s _ e hq=>hk _ _ _ _ e hq

theorem same_of {sA sE:St} {o:Nat} {x:AObj} (hob:Agr sA sE) (hk:sA.kn o) (e:sE.obj o=x) (hx:x ≠ .dead):sA.obj o=x:=by
 rw [ob_eq hob hk (by rw [e];exact hx),e]

theorem faddr_agree (hob:Agr sA sE) {t:TypeId} {f:Nat} {v:AV} (hv:AVB sA v) {q:Prop} {r:Option AV} {s:St} (h:faddrS P sE t f v=some (q,r,s)):∃ s2,faddrS P sA t f v=some (q,r,s2):=by
 unfold faddrS at h ⊢
 split at h
 ·rename_i o i j
  have hv':sA.kn o:=hv
  cases eo:sE.obj o with
  | dead=>rw [eo] at h;cases h
  | hole=>rw [eo] at h;rw [same_of hob hv' eo (by simp)];exact ex_of_map (s2:=sA) (by cases tf P t f <;> rfl) h
  | pin _ _=>rw [eo] at h;rw [same_of hob hv' eo (by simp)];exact ex_of_map (s2:=sA) (by cases tf P t f <;> rfl) h
  | ballast _=>rw [eo] at h;rw [same_of hob hv' eo (by simp)];exact ex_of_map (s2:=sA) (by cases tf P t f <;> rfl) h
  | box c=>rw [eo] at h;rw [same_of hob hv' eo (by simp)];exact ex_of_map (s2:=sA) (by cases tf P t f <;> rfl) h
  | vec a b c=>rw [eo] at h;rw [same_of hob hv' eo (by simp)];exact ex_of_map (s2:=sA) (by cases tf P t f <;> rfl) h
  | frz a b=>rw [eo] at h;rw [same_of hob hv' eo (by simp)];exact ex_of_map (s2:=sA) (by cases tf P t f <;> rfl) h
  | wide a b c=>rw [eo] at h;rw [same_of hob hv' eo (by simp)];exact ex_of_map (s2:=sA) (by cases tf P t f <;> rfl) h
 ·exact ex_of_map (s2:=sA) (by cases tf P t f <;> rfl) h
 ·cases h

theorem iaddr_agree (hob:Agr sA sE) {t:TypeId} {u v:AV} (hu:AVB sA u) {q:Prop} {r:Option AV} {s:St} (h:iaddrS P sE t u v=some (q,r,s)):∃ s2,iaddrS P sA t u v=some (q,r,s2):=by
 unfold iaddrS at h ⊢
 split at h
 ·rename_i o k n
  have hv':sA.kn o:=hu
  split at h
  ·split at h
   ·rename_i eo;rw [same_of hob hv' eo (by simp)];cases h;exact ⟨_,rfl⟩
   ·rename_i eo;rw [same_of hob hv' eo (by simp)];cases h;exact ⟨_,rfl⟩
   ·cases h
  ·cases h
 ·rename_i o i m k n
  have hv':sA.kn o:=hu
  split at h
  ·split at h
   ·rename_i eo;rw [same_of hob hv' eo (by simp)];cases h;exact ⟨_,rfl⟩
   ·cases h
  ·cases h
 ·split at h
  ·cases h;exact ⟨_,rfl⟩
  ·cases h
 ·rename_i o i j k n
  have hv':sA.kn o:=hu
  split at h
  ·cases eo:sE.obj o with
   | dead=>rw [eo] at h;cases h
   | hole=>rw [eo] at h;rw [same_of hob hv' eo (by simp)];cases h;exact ⟨_,rfl⟩
   | pin _ _=>rw [eo] at h;rw [same_of hob hv' eo (by simp)];cases h;exact ⟨_,rfl⟩
   | ballast _=>rw [eo] at h;rw [same_of hob hv' eo (by simp)];cases h;exact ⟨_,rfl⟩
   | box c=>rw [eo] at h;rw [same_of hob hv' eo (by simp)];cases h;exact ⟨_,rfl⟩
   | vec a b c=>rw [eo] at h;rw [same_of hob hv' eo (by simp)];cases h;exact ⟨_,rfl⟩
   | frz a b=>rw [eo] at h;rw [same_of hob hv' eo (by simp)];cases h;exact ⟨_,rfl⟩
   | wide a b c=>rw [eo] at h;rw [same_of hob hv' eo (by simp)];cases h;exact ⟨_,rfl⟩
  ·cases h
 ·split at h
  ·cases h;exact ⟨_,rfl⟩
  ·cases h
 ·cases h

theorem ldp_agree (hob:Agr sA sE) {agg:Bool} {s:Nat} {p:Ptr} (hp:LeafB sA (.ptr p)) {y:Prop × AV} (h:ldp sE agg s p=some y):ldp sA agg s p=some y:=by
 cases p with
 | ro sz rows i j=>exact h
 | own o i j =>
  have hv':sA.kn o:=hp
  simp only [ldp] at h ⊢
  cases eo:sE.obj o with
  | dead=>rw [eo] at h;cases h
  | hole=>rw [eo] at h;rw [same_of hob hv' eo (by simp)];exact h
  | box c=>rw [eo] at h;rw [same_of hob hv' eo (by simp)];exact h
  | vec a b c=>rw [eo] at h;rw [same_of hob hv' eo (by simp)];exact h
  | frz a b=>rw [eo] at h;rw [same_of hob hv' eo (by simp)];exact h
  | wide a b c=>rw [eo] at h;cases h
  | pin a b=>rw [eo] at h;cases h
  | ballast a=>rw [eo] at h;cases h

theorem load_agree (hob:Agr sA sE) {t:TypeId} {v:AV} (hv:AVB sA v) {q:Prop} {r:Option AV} {s:St} (h:loadS P sE t v=some (q,r,s)):∃ s2,loadS P sA t v=some (q,r,s2):=by
 unfold loadS at h ⊢
 split at h
 ·rename_i p
  split at h
  ·cases h
  rename_i hns
  split at h
  ·split at h
   ·rename_i agg sz _ hc
    rw [Option.map_eq_some_iff] at h
    obtain ⟨y,hy,e⟩:=h
    have hsA:sepSl P sA t p=sepSl P sE t p:=by
     cases p with
     | ro=>rfl
     | own o i j =>
      have hv':sA.kn o:=hv
      simp only [sepSl]
      cases eo:sE.obj o with
      | dead=>simp only [ldp,eo] at hy;cases hy
      | hole=>simp only [ldp,eo] at hy;cases hy
      | pin a b=>simp only [ldp,eo] at hy;cases hy
      | ballast a=>simp only [ldp,eo] at hy;cases hy
      | wide a b c=>simp only [ldp,eo] at hy;cases hy
      | box c=>simp only [same_of hob hv' eo (by simp)]
      | vec a b c=>simp only [same_of hob hv' eo (by simp)]
      | frz a b=>simp only [same_of hob hv' eo (by simp)]
    rw [hsA,if_neg hns]
    rw [if_pos hc,ldp_agree hob hv hy]
    cases e
    exact ⟨_,rfl⟩
   ·cases h
  ·cases h
 ·cases h

theorem len_agree (hob:Agr sA sE) {v:AV} (hv:AVB sA v) {q:Prop} {r:Option AV} {s:St} (h:lenS sE v=some (q,r,s)):∃ s2,lenS sA v=some (q,r,s2):=by
 unfold lenS at h ⊢
 split at h
 ·rename_i o
  have hv':sA.kn o:=hv
  split at h
  ·rename_i eo;rw [same_of hob hv' eo (by simp)];cases h;exact ⟨_,rfl⟩
  ·rename_i eo;rw [same_of hob hv' eo (by simp)];cases h;exact ⟨_,rfl⟩
  ·rename_i eo;rw [same_of hob hv' eo (by simp)];cases h;exact ⟨_,rfl⟩
  ·cases h
 ·rename_i o i n
  have hv':sA.kn o:=hv
  split at h
  ·rename_i eo;rw [same_of hob hv' eo (by simp)];cases h;exact ⟨_,rfl⟩
  ·rename_i eo;rw [same_of hob hv' eo (by simp)];cases h;exact ⟨_,rfl⟩
  ·cases h
 all_goals (cases h;try exact ⟨_,rfl⟩)

theorem conv_agree (hob:Agr sA sE) {src dst:TypeId} {v:AV} (hv:AVB sA v) {q:Prop} {r:Option AV} {s:St} (h:convS P sE src dst v=some (q,r,s)):∃ s2,convS P sA src dst v=some (q,r,s2):=by
 unfold convS at h ⊢
 split at h
 ·refine ex_of_map (s2:=sA) ?_ h
  split <;> rfl
 ·refine ex_of_map (s2:=sA) ?_ h
  split <;> rfl
 ·refine ex_of_map (s2:=sA) ?_ h
  split
  ·rw [Option.map_map];rfl
  ·rfl
 ·rename_i o
  have hv':sA.kn o:=hv
  split at h
  ·rename_i eo
   rw [same_of hob hv' eo (by simp)]
   refine ex_of_map (s2:=sA) ?_ h
   simp only
   split
   ·rw [Option.map_map];rfl
   ·rfl
  ·cases h
 ·cases h

theorem slice_agree (hob:Agr sA sE) {t:TypeId} {v:AV} {l m x:Option AV} (hv:AVB sA v) {q:Prop} {r:Option AV} {s:St} (h:sliceS P sE t v l m x=some (q,r,s)):∃ s2,sliceS P sA t v l m x=some (q,r,s2):=by
 have key:∀ o,v=.one (.own o) \/ (∃ i n,v=.one (.part o i n)) -> sE.obj o ≠ .dead -> sA.obj o=sE.obj o:=fun o ho hd=>by
  refine ob_eq hob ?_ hd
  rcases ho with rfl | ⟨i,n,rfl⟩ <;> exact hv
 refine ex_of_map (s2:=sA) ?_ h
 have main:(∀ o,v=.one (.own o) \/ (∃ i n,v=.one (.part o i n)) -> sA.obj o=sE.obj o) -> sliceS P sA t v l m x=(sliceS P sE t v l m x).map (reSt sA):=fun hs=>by
  cases v with
  | one lf =>
   cases lf with
   | own o =>
    have e:=hs o (.inl rfl)
    unfold sliceS
    simp only [e]
    repeat' split
    all_goals first | rfl | (rename_i h;exact (h _ _ _ _ rfl).elim) | (simp_all [reSt];done)
   | part o i n =>
    have e:=hs o (.inr ⟨i,n,rfl⟩)
    unfold sliceS
    simp only [e]
    repeat' split
    all_goals first | rfl | (rename_i h;exact (h _ _ _ _ rfl).elim) | (simp_all [reSt];done)
   | dat d =>
    unfold sliceS
    repeat' split
    all_goals first | rfl | (rename_i h;exact (h _ _ _ _ rfl).elim) | (simp_all [reSt];done)
   | emp =>
    unfold sliceS
    repeat' split
    all_goals first | rfl | (rename_i h;exact (h _ _ _ _ rfl).elim) | (simp_all [reSt];done)
   | ptr p =>
    unfold sliceS
    repeat' split
    all_goals first | rfl | (rename_i h;exact (h _ _ _ _ rfl).elim) | (simp_all [reSt];done)
   | fn f c =>
    unfold sliceS
    repeat' split
    all_goals first | rfl | (rename_i h;exact (h _ _ _ _ rfl).elim) | (simp_all [reSt];done)
  | agg ls =>
   unfold sliceS
   repeat' split
   all_goals first | rfl | (rename_i h;exact (h _ _ _ _ rfl).elim) | (simp_all [reSt];done)
  | tup vs =>
   unfold sliceS
   repeat' split
   all_goals first | rfl | (rename_i h;exact (h _ _ _ _ rfl).elim) | (simp_all [reSt];done)
  | ifg b v =>
   unfold sliceS
   repeat' split
   all_goals first | rfl | (rename_i h;exact (h _ _ _ _ rfl).elim) | (simp_all [reSt];done)
 refine main fun o ho=>?_
 refine key o ho fun hd=>?_
 unfold sliceS at h
 rcases ho with rfl | ⟨i,n,rfl⟩ <;> simp only [hd] at h <;> repeat' split at h
 all_goals first | (cases h;done)

theorem leafD_agree (hob:Agr sA sE) {l:Leaf} (hl:LeafB sA l) {d:D} (h:leafD sE [] l=some d):leafD sA [] l=some d:=by
 cases l with
 | own o =>
  have hd:sE.obj o ≠ .dead:=fun e=>by simp [leafD,e] at h
  simpa only [leafD,ob_eq hob hl hd] using h
 | part o i n =>
  have hd:sE.obj o ≠ .dead:=fun e=>by simp [leafD,e] at h
  simpa only [leafD,ob_eq hob hl hd] using h
 | dat d=>exact h
 | emp=>exact h
 | ptr p=>exact h
 | fn f c=>exact h

theorem leavesD_agree (hob:Agr sA sE):∀ {ls:List Leaf},(∀ l ∈ ls,LeafB sA l) -> ∀ {ds:List D},leavesD sE [] ls=some ds -> leavesD sA [] ls=some ds
 | [],_,ds,h=>h
 | l :: ls,hl,ds,h=>by
  simp only [leavesD] at h ⊢
  split at h
  ·rename_i d ds' e1 e2
   rw [leafD_agree hob (hl l (by simp)) e1,leavesD_agree hob (fun l hm=>hl l (by simp [hm])) e2]
   exact h
  ·cases h

def BoxB (s:St):Prop:=∀ o cells,s.obj o=.box cells -> ∀ l ∈ cells,LeafB s l

theorem viewP_agree (hob:Agr sA sE) (hbx:BoxB sA) {p q:Ptr} (hp:PtrB sA p) (h:viewP sE [] p=some q):viewP sA [] p=some q:=by
 cases p with
 | ro sz rows i j=>exact h
 | own o i j =>
  have hd:sE.obj o ≠ .dead:=fun e=>by simp [viewP,e] at h
  have he:=ob_eq hob hp hd
  simp only [viewP,he] at h ⊢
  split at h
  ·rename_i hm;cases hm
  ·rename_i hn
   rw [if_neg hn]
   split at h
   ·rename_i cells ec
    rw [Option.map_eq_some_iff] at h
    obtain ⟨ds,h1,h2⟩:=h
    rw [leavesD_agree hob (hbx o cells (by rw [he,ec])) h1]
    rw [<- h2]
    rfl
   ·cases h

theorem viewPs_agree (hob:Agr sA sE) (hbx:BoxB sA):∀ {ps qs:List Ptr},(∀ p ∈ ps,PtrB sA p) -> viewPs sE [] ps=some qs -> viewPs sA [] ps=some qs
 | [],qs,_,h=>h
 | p :: ps,qs,hp,h=>by
  simp only [viewPs] at h ⊢
  split at h
  ·rename_i d ds' e1 e2
   rw [viewP_agree hob hbx (hp p (by simp)) e1,viewPs_agree hob hbx (fun l hm=>hp l (by simp [hm])) e2]
   exact h
  ·cases h

theorem viewL_agree (hob:Agr sA sE) (hbx:BoxB sA) {l m:Leaf} (hl:LeafB sA l) (h:viewL sE [] l=some m):viewL sA [] l=some m:=by
 cases l with
 | dat d=>exact h
 | emp=>exact h
 | own o =>
  simp only [viewL] at h ⊢
  split at h
  ·rename_i hm;cases hm
  ·rename_i hn
   rw [if_neg hn]
   rw [Option.map_eq_some_iff] at h ⊢
   obtain ⟨d,h1,h2⟩:=h
   exact ⟨d,leafD_agree hob hl h1,h2⟩
 | part o i n =>
  simp only [viewL] at h ⊢
  rw [Option.map_eq_some_iff] at h ⊢
  obtain ⟨d,h1,h2⟩:=h
  exact ⟨d,leafD_agree hob hl h1,h2⟩
 | ptr p =>
  simp only [viewL] at h ⊢
  rw [Option.map_eq_some_iff] at h ⊢
  obtain ⟨d,h1,h2⟩:=h
  exact ⟨d,viewP_agree hob hbx hl h1,h2⟩
 | fn f c =>
  simp only [viewL] at h ⊢
  rw [Option.map_eq_some_iff] at h ⊢
  obtain ⟨d,h1,h2⟩:=h
  exact ⟨d,viewPs_agree hob hbx hl h1,h2⟩

theorem viewLs_agree (hob:Agr sA sE) (hbx:BoxB sA):∀ {ls ms:List Leaf},(∀ l ∈ ls,LeafB sA l) -> viewLs sE [] ls=some ms -> viewLs sA [] ls=some ms
 | [],ms,_,h=>h
 | l :: ls,ms,hl,h=>by
  simp only [viewLs] at h ⊢
  split at h
  ·rename_i d ds' e1 e2
   rw [viewL_agree hob hbx (hl l (by simp)) e1,viewLs_agree hob hbx (fun l hm=>hl l (by simp [hm])) e2]
   exact h
  ·cases h

theorem viewA_agree (hob:Agr sA sE) (hbx:BoxB sA) {u v:AV} (hu:AVB sA u) (h:viewA sE [] u=some v):viewA sA [] u=some v:=by
 cases u with
 | one l =>
  simp only [viewA] at h ⊢
  rw [Option.map_eq_some_iff] at h ⊢
  obtain ⟨d,h1,h2⟩:=h
  exact ⟨d,viewL_agree hob hbx hu h1,h2⟩
 | agg ls =>
  simp only [viewA] at h ⊢
  rw [Option.map_eq_some_iff] at h ⊢
  obtain ⟨d,h1,h2⟩:=h
  exact ⟨d,viewLs_agree hob hbx hu h1,h2⟩
 | tup vs=>exact h
 | ifg b v=>exact h

theorem viewAs_agree (hob:Agr sA sE) (hbx:BoxB sA):∀ {us vs:List AV},(∀ u ∈ us,AVB sA u) -> viewAs sE [] us=some vs -> viewAs sA [] us=some vs
 | [],vs,_,h=>h
 | u :: us,vs,hu,h=>by
  simp only [viewAs] at h ⊢
  split at h
  ·rename_i d ds' e1 e2
   rw [viewA_agree hob hbx (hu u (by simp)) e1,viewAs_agree hob hbx (fun l hm=>hu l (by simp [hm])) e2]
   exact h
  ·cases h

theorem evAs_same:∀ {xs:List Operand},(∀ x ∈ xs,opA sA x=opA sE x) -> evAs sA xs=evAs sE xs
 | [],_=>rfl
 | x :: xs,h=>by
  simp only [evAs]
  rw [h x (by simp),evAs_same fun y hy=>h y (by simp [hy])]

theorem callee_same {o:Oper} (h:∀ x ∈ o.op.operands,opA sA x=opA sE x):callee sA o=callee sE o:=by
 unfold callee
 split
 ·rename_i x args ts eo
  have h1:opA sA x=opA sE x:=h x (by rw [eo];simp [Op.operands,Call.operands])
  have h2:evAs sA args.toList=evAs sE args.toList:=evAs_same fun y hy=>h y (by rw [eo];simp [Op.operands,Call.operands];exact .inr (by simpa using hy))
  rw [h1,h2]
 ·rfl

theorem box_low {a:Act} {w:World} {β:Nat -> Info} {φ:Nat -> List Nat} (h:SR B N sA β φ a w):BoxB sA:=fun o cells e l hl=>by
 have:=h.objs o
 unfold ObjRel at this
 rw [show (sA.ctx w β φ).ob o=_ from e] at this
 obtain ⟨b,T,vs,_,_,_,h4⟩:=this
 obtain ⟨k,hk,rfl⟩:=List.mem_iff_getElem.1 hl
 obtain ⟨x,_,hx⟩:=h4.2 k _ (List.getElem?_eq_getElem hk)
 exact hx.low

theorem args_low {a:Act} {w:World} {β:Nat -> Info} {φ:Nat -> List Nat} (h:SR B N sA β φ a w) {o:Oper} {q:Prop} {fid:FuncId} {avs:List AV} (hc:callee sA o=some (q,fid,avs)) (hq:q):∀ u ∈ avs,AVB sA u:=by
 unfold callee at hc
 split at hc
 ·split at hc
  ·rename_i p fid' caps q' avs' e1 e2
   simp only [Option.some.injEq,Prod.mk.injEq] at hc
   obtain ⟨rfl,rfl,rfl⟩:=hc
   obtain ⟨hp,hq'⟩:=hq
   intro u hu
   rcases List.mem_append.1 hu with hu | hu
   ·obtain ⟨k,hk,rfl⟩:=List.mem_iff_getElem.1 hu
    obtain ⟨x,_,hx⟩:=(evAs_sound h e2 hq').2 k _ (List.getElem?_eq_getElem hk)
    exact hx.low
   ·have hf:AVB sA (.one (.fn fid' caps)):=AVRel.low (opA_sound h e1 hp)
    obtain ⟨c,hc,rfl⟩:=List.mem_map.1 hu
    exact hf c hc
  ·cases hc
 ·cases hc

theorem views_agree {a:Act} {w:World} {β:Nat -> Info} {φ:Nat -> List Nat} (h:SR B N sA β φ a w) (hob:Agr sA sE) {o:Oper} {q:Prop} {fid:FuncId} {avs vs:List AV} (hc:callee sA o=some (q,fid,avs)) (hq:q)
  (hv:viewAs sE [] avs=some vs):viewAs sA [] avs=some vs:=viewAs_agree hob (box_low h) (args_low h hc hq) hv

theorem effX_agree {a:Act} {w:World} {β:Nat -> Info} {φ:Nat -> List Nat} (h:SR B N sA β φ a w) (hob:Agr sA sE) (hn:sA.next=sE.next) {o:Oper} (hop:∀ x ∈ o.op.operands,opA sA x=opA sE x) {v:AV} {x:List AObj}
  (hx:effX P sE o v x):effX P sA o v x:=by
 obtain ⟨q,fid,avs,vs,r,e,hq,h1,h2,h3,rfl⟩:=hx
 rw [<- callee_same hop] at e
 exact ⟨q,fid,avs,vs,r,e,hq,views_agree h hob e hq h1,h2,h3,by rw [hn]⟩

theorem litX_agree (hn:sA.next=sE.next) {o:Oper} (hop:∀ x ∈ o.op.operands,opA sA x=opA sE x) {v:AV} {x:List AObj} (hx:litX P sE o v x):litX P sA o v x:=by
 obtain ⟨t,len,parts,q,ls,eo,e,hq,rfl,rfl⟩:=hx
 refine ⟨t,len,parts,q,ls,eo,?_,hq,by rw [hn],rfl⟩
 unfold litL at e ⊢
 rw [evP_same (s2:=sE) fun p hp=>hop p.2 (by
  rw [eo]
  simp only [Op.operands]
  exact List.mem_toArray.2 (List.mem_map.2 ⟨p,hp,rfl⟩))]
 exact e

theorem litX_wp {st:St} {a:Act} {w:World} {β:Nat -> Info} {φ:Nat -> List Nat} (h:SR B N st β φ a w) {o:Oper} {v:AV} {x:List AObj} (hx:litX P st o v x) {next:Act -> World -> Prop} {Q:Exit -> Act -> World -> Prop}
  (hnext:∀ β' φ' w' y,SR B N (st.after [] x) β' φ' a w' -> AVRel ((st.after [] x).ctx w' β' φ') v y -> next (a.put o.dst y) w'):o.wp P a w next Q:=by
 obtain ⟨t,len,parts,q,ls,eo,e,hq,rfl,rfl⟩:=hx
 unfold litL at e
 split at e
 ·rename_i e' s y q1 ps ht ep
  split at e
  ·rename_i zs hz
   split at e
   ·rename_i ls' ef
    simp only [Option.some.injEq,Prod.mk.injEq] at e
    obtain ⟨rfl,rfl⟩:=e
    obtain ⟨hq1,hzl,hle⟩:=hq
    obtain ⟨cells,f1,f2⟩:=lit_run (P:=P) h ht ep hq1 hz ef hzl hle
    have hrun:(execOp a.eval o).run P w=.ok (.value (.slice (some ⟨w.heap.size,0,none⟩) len len)) (w.alloc (.cells cells e')):=by
     unfold execOp
     simp only [eo]
     simp [f1]
    have hfrm:Frm w (fun _=>False) (w.alloc (.cells cells e')):=(Frm.refl w _).alloc _
    obtain ⟨le,sr⟩:=h.add (.box ls') ⟨some ⟨w.heap.size,0,none⟩,len⟩ [w.heap.size] hfrm (by simp) (by simp) (fun le=>by
     unfold ObjRel
     rw [show ((st.addObj (.box ls')).ctx (w.alloc (.cells cells e')) (upd β st.next ⟨some ⟨w.heap.size,0,none⟩,len⟩) (upd φ st.next [w.heap.size])).ob st.next=_ from St.obj_addObj_same st _]
     exact ⟨w.heap.size,e',cells,by show ((upd β st.next _) st.next).base=_;rw [upd_same],upd_same ..,heap_alloc_new ..,f2.mono le⟩)
    have hp:AVRel ((st.addObj (.box ls')).ctx (w.alloc (.cells cells e')) (upd β st.next ⟨some ⟨w.heap.size,0,none⟩,len⟩) (upd φ st.next [w.heap.size])) (.one (.part st.next 0 len)) (.slice (some ⟨w.heap.size,0,none⟩) len len):=by
     refine ⟨Nat.lt_succ_self _,?_⟩
     rw [show ((st.addObj (.box ls')).ctx (w.alloc (.cells cells e')) (upd β st.next ⟨some ⟨w.heap.size,0,none⟩,len⟩) (upd φ st.next [w.heap.size])).ob st.next=_ from St.obj_addObj_same st _]
     show ((upd β st.next _) st.next).cap=len /\ _
     rw [upd_same]
     exact ⟨rfl,rfl,_,by show ((upd β st.next _) st.next).base=_;rw [upd_same],rfl⟩
    unfold Oper.wp
    rw [hrun]
    exact hnext _ _ _ _ sr hp
   ·cases e
  ·cases e
 ·cases e

theorem litL_same {o:Oper} {t:TypeId} {len:Nat} {parts:Array (Nat × Operand)} (eo:o.op=.buildSlice t len parts) (hop:∀ x ∈ o.op.operands,opA sA x=opA sE x):litL P sA t len parts=litL P sE t len parts:=by
 unfold litL
 rw [evP_same (s2:=sE) fun p hp=>hop p.2 (by
  rw [eo]
  simp only [Op.operands]
  exact List.mem_toArray.2 (List.mem_map.2 ⟨p,hp,rfl⟩))]
theorem flatDs_flat:∀ {ls:List Leaf} {ds:List D},flatDs ls=some ds -> ∀ d ∈ ds,d.flat=true
 | [],ds,h=>by cases h;simp
 | .dat d :: r,ds,h=>by
  simp only [flatDs] at h
  split at h
  ·rename_i hd
   obtain ⟨ds',h1,rfl⟩:=Option.map_eq_some_iff.1 h
   intro x hx
   rcases List.mem_cons.1 hx with rfl | hx
   ·exact hd
   ·exact flatDs_flat h1 x hx
  ·cases h
 | .emp :: _,_,h=>by simp [flatDs] at h
 | .own _ :: _,_,h=>by simp [flatDs] at h
 | .part _ _ _ :: _,_,h=>by simp [flatDs] at h
 | .ptr _ :: _,_,h=>by simp [flatDs] at h
 | .fn _ _ :: _,_,h=>by simp [flatDs] at h
theorem vlitX_agree (hn:sA.next=sE.next) {o:Oper} (hop:∀ x ∈ o.op.operands,opA sA x=opA sE x) {v:AV} {x:List AObj} (hx:vlitX P sE o v x):vlitX P sA o v x:=by
 obtain ⟨t,len,parts,q,ls,ds,e,s,y,zs,eo,h1,h2,h3,h4,h5,h6,rfl,rfl⟩:=hx
 exact ⟨t,len,parts,q,ls,ds,e,s,y,zs,eo,by rw [litL_same eo hop];exact h1,h2,h3,h4,h5,h6,by rw [hn],rfl⟩
theorem vlitX_wp {st:St} {a:Act} {w:World} {β:Nat -> Info} {φ:Nat -> List Nat} (h:SR B N st β φ a w) {o:Oper} {v:AV} {x:List AObj} (hx:vlitX P st o v x) {next:Act -> World -> Prop} {Q:Exit -> Act -> World -> Prop}
  (hnext:∀ β' φ' w' y,SR B N (st.after [] x) β' φ' a w' -> AVRel ((st.after [] x).ctx w' β' φ') v y -> next (a.put o.dst y) w'):o.wp P a w next Q:=by
 obtain ⟨t,len,parts,q,ls,ds,e1,s1,y1,zs1,eo,e,hq,hfd,hdl,hte,htz,rfl,rfl⟩:=hx
 unfold litL at e
 split at e
 ·rename_i e' s y q1 ps ht ep
  rw [ht] at hte
  cases hte
  split at e
  ·rename_i zs hz
   split at e
   ·rename_i ls' ef
    simp only [Option.some.injEq,Prod.mk.injEq] at e
    obtain ⟨rfl,rfl⟩:=e
    obtain ⟨hq1,hzl,hle⟩:=hq
    obtain ⟨cells,f1,f2⟩:=lit_run (P:=P) h ht ep hq1 hz ef hzl hle
    have hrun:(execOp a.eval o).run P w=.ok (.value (.slice (some ⟨w.heap.size,0,none⟩) len len)) (w.alloc (.cells cells e1)):=by
     unfold execOp
     simp only [eo]
     simp [f1]
    have hr0:RepL w ds cells.toList []:=flatDs_rep hfd f2
    have hcl:cells.size=len * s1:=by have:=hr0.length;rw [Array.length_toList] at this;omega
    have hr:RepL (w.alloc (.cells cells e1)) ds cells.toList []:=hr0.frm (by simp) (by simp)
    have hdl':ds.length=len * s1:=hdl
    have hrl:RepL (w.alloc (.cells cells e1)) (chunks s1 len ds).flatten (cells.toList.take ((chunks s1 len ds).length * s1)) []:=by
     rw [chunks_length,chunks_flatten _ len ds hdl',List.take_of_length_le (by rw [Array.length_toList,hcl];omega)];exact hr
    obtain ⟨β',φ',le,sr,hp⟩:=h.newVec (ks:=[]) (w':=w.alloc (.cells cells e1)) (by simp) ((Frm.refl w _).alloc _) (sz:=s1) (cap:=len) (b:=w.heap.size) (sep:=true)
     (rows:=chunks s1 len ds) (S:=[]) (E:=[]) (T:=e1) (vs:=cells) (chunks_mem _ len ds hdl') (by rw [chunks_length];omega) (heap_alloc_new ..) ⟨hcl,[],by rw [chunks_length,List.drop_of_length_le (by rw [Array.length_toList,hcl];omega)];exact .nil⟩
     hrl (by simp) (by simp) (by simp only [if_true];exact ⟨List.nodup_nil,by simp,OwnL.of_flat hrl (by rw [chunks_flatten _ len ds hdl'];exact flatDs_flat hfd)⟩)
    rw [chunks_length] at hp
    unfold Oper.wp
    rw [hrun]
    exact hnext _ _ _ _ sr hp
   ·cases e
  ·cases e
 ·cases e

theorem bringX_agree {a:Act} {w:World} {β:Nat -> Info} {φ:Nat -> List Nat} (h:SR B N sA β φ a w) (hob:Agr sA sE) (hn:sA.next=sE.next) {o:Oper} (hop:∀ x ∈ o.op.operands,opA sA x=opA sE x) {v:AV} {x:List AObj}
  (hx:bringX P sE o v x):bringX P sA o v x:=hx.imp (effX_agree h hob hn hop) (Or.imp (litX_agree hn hop) (vlitX_agree hn hop))

theorem bringX_wp {st:St} {a:Act} {w:World} {β:Nat -> Info} {φ:Nat -> List Nat} (h:SR B N st β φ a w) {o:Oper} {v:AV} {x:List AObj} (hx:bringX P st o v x) {next:Act -> World -> Prop} {Q:Exit -> Act -> World -> Prop}
  (hnext:∀ β' φ' w' y,SR B N (st.after [] x) β' φ' a w' -> AVRel ((st.after [] x).ctx w' β' φ') v y -> next (a.put o.dst y) w'):o.wp P a w next Q :=
 hx.elim (fun hx=>effX_wp h hx hnext) (fun hx=>hx.elim (fun hx=>litX_wp h hx hnext) (fun hx=>vlitX_wp h hx hnext))

theorem condCall_agree {a:Act} {w:World} {β:Nat -> Info} {φ:Nat -> List Nat} (h:SR B N sA β φ a w) (hob:Agr sA sE) {o:Oper} (hop:∀ x ∈ o.op.operands,opA sA x=opA sE x) {g:Bool} {K:AV -> Prop}
  (hx:condCall P sE o g K):condCall P sA o g K:=by
 unfold condCall at hx ⊢
 rw [callee_same hop]
 have e:=callee_same (o:=o) hop
 split at hx
 ·rename_i q fid avs e2
  obtain ⟨r,h1,h2,h3⟩:=hx
  rw [e2] at e
  exact ⟨r,h1,fun hg=>by
   obtain ⟨k1,vs,k2,k3,k4⟩:=h2 hg
   exact ⟨k1,vs,views_agree h hob e k1 k2,k3,k4⟩,h3⟩
 ·exact hx.elim

theorem opA_find {s1 s2:St} {x:Operand} (h:∀ t,x=.tmp t -> find s1.env t=find s2.env t):opA s1 x=opA s2 x:=by
 cases x with
 | tmp t=>simp only [opA];rw [h t rfl]
 | const v=>rfl
 | func f=>rfl
 | global g=>rfl

theorem stepD_agree {a:Act} {w:World} {β:Nat -> Info} {φ:Nat -> List Nat} (h:SR B N sA β φ a w) (hob:Agr sA sE) {ops:Array Oper} {o:Oper} (hcv:callV o.op=true) (hag:∀ t ∈ Oper.looks ops o,find sA.env t=find sE.env t) {v:AV}
  (hs:stepD P ops sE o (·=v)):stepD P ops sA o (·=v):=by
 have hop:∀ x ∈ o.op.operands,opA sA x=opA sE x:=fun x hx=>opA_find fun t e=>hag t (by
  subst e
  unfold Oper.looks
  exact List.mem_append_left _ (List.mem_filterMap.2 ⟨.tmp t,Array.mem_toList_iff.2 hx,rfl⟩))
 have hp:pureOp o.op=false:=by
  unfold callV at hcv
  split at hcv
  ·rename_i e;rw [e];rfl
  ·cases hcv
 unfold stepD at hs ⊢
 split at hs
 ·rename_i eg
  simp only [hp] at hs ⊢
  exact condCall_agree h hob hop hs
 ·rename_i j want eg
  have hg:guardA ops sA j want=guardA ops sE j want:=by
   unfold guardA
   cases e:(ops[j]?).bind (·.dst) with
   | none=>rfl
   | some d =>
    simp only
    rw [hag d (by
     unfold Oper.looks
     rw [eg]
     refine List.mem_append_right _ ?_
     simp only [e]
     simp)]
  rw [hg]
  split at hs
  ·exact hs.elim
  ·simp only [hp] at hs ⊢
   exact condCall_agree h hob hop hs
end agree
end
end Go.Abs
