/- A region whose order is open: reads that may float past what makes new objects; what changes memory has one order. Own work. -/
import Derived.Test.YtcnddedeeplbcaaGreatAbsQuiet
namespace Go.Abs
set_option linter.unusedVariables false
set_option linter.unusedSimpArgs false

def lit0:Op -> Bool
 | .buildSlice _ 0 ⟨[]⟩=>true
 | _=>false
def readV (o:Oper):Bool:=o.guard.isNone && o.dst.isSome && match o.op with
 | .move _ | .assign _ | .build _ _ | .load _ _ | .unOp _ _ _ | .fieldAddr _ _ _ | .field _ _ _ | .indexAddr _ _ _ | .index _ _ _ | .extract _ _ | .binOp _ _ _ _ _ | .slice _ _ _ _ _=>true
 | .call { callee:=.builtin .len,args:=⟨[_]⟩,.. }=>true
 | op=>lit0 op
def pinK:List (Nat × AObj) -> Option Nat
 | []=>none
 | (k,x) :: r=>match x with
  | .pin _ _=>some k
  | _=>pinK r
def pinN (st:St):Option (Nat × Value):=match pinK st.objs with
 | some p=>match st.obj p with
  | .pin n v=>some (n,v)
  | _=>none
 | none=>none
def pinF (n:Nat) (v':Value):Leaf -> Prop × Leaf
 | .dat (.hdr v)=>(v=v',.own n)
 | l=>(True,l)
def pinA (n:Nat) (v':Value):AV -> Prop × AV
 | .one l=>((pinF n v' l).1,.one (pinF n v' l).2)
 | .agg ls=>(∀ l ∈ ls,(pinF n v' l).1,.agg (ls.map fun l=>(pinF n v' l).2))
 | v=>(True,v)
def loadR (P:Program) (st:St) (t:TypeId):AV -> Out
 | .one (.ptr p)=>match tl P t with
  | some (agg,s)=>if agg || decide (s=1) then (ldp st agg s p).map fun x=>(x.1,some x.2,st) else none
  | none=>none
 | _=>none
def opL (P:Program) (st:St) (o:Oper):Out:=match pinN st with
 | none=>opS P st o
 | some (n,v')=>match o.op with
  | .load t x=>match un st x fun v=>loadR P st t v with
   | some (q,some v,s)=>some (q /\ (pinA n v' v).1,some (pinA n v' v).2,s)
   | r=>r
  | _=>opS P st o
def opR (P:Program) (st:St) (o:Oper):Out:=match lit0 o.op with
 | true=>match o.op with
  | .buildSlice t _ _=>match te P t with
   | some (e,_,_)=>match tz P e with
    | some _=>some (True,some (.one .emp),st)
    | none=>none
   | none=>none
  | _=>none
 | false=>opL P st o
def plainV (o:Oper):Bool:=o.guard.isNone && match o.op with
 | .select _ _=>false
 | _=>true

def Same (u v:AV):Prop:=u=v
theorem Same_self {u:AV}:Same u u=True:=by simp [Same]
def sameV (P:Program) (st:St) (x:Oper) (v:AV):Prop:=match opR P st x with
 | some (q,some u,_)=>q /\ Same u v
 | _=>False
def keptV (P:Program) (st:St):Option Oper -> Prop
 | some x=>match x.dst with
  | some d=>match find st.env d with
   | some v=>sameV P st x v
   | none=>False
  | none=>False
 | none=>False
def chk (P:Program) (ops:Array Oper):List Nat -> St -> Prop
 | [],_=>True
 | i :: cs,st=>keptV P st (ops[i]?) /\ chk P ops cs st

def regF (P:Program) (ops:Array Oper):List (Nat × List Nat) -> St -> (St -> Prop) -> Prop
 | [],st,K=>K st
 | (i,cs) :: r,st,K=>match ops[i]? with
  | none=>False
  | some o=>match readV o with
   | true=>match opR P st o with
    | some (q,some v,_)=>q /\ regF P ops r (st.putO o.dst (some v)) K
    | _=>False
   | false=>opQ P st o fun v s=>chk P ops cs (s.putO o.dst v) /\ regF P ops r (s.putO o.dst v) K

def linOk (ops:Array Oper):List Nat -> List (Nat × List Nat) -> Bool
 | _,[]=>true
 | pre,(i,_) :: r=>(match ops[i]? with
  | some o=>o.after.all fun e=>!Region.binds .any e || pre.contains e.on
  | none=>false) && linOk ops (i :: pre) r
def chainOk (ops:Array Oper) (al:List Nat):List (Nat × List Nat) -> Bool
 | []=>true
 | (i,_) :: r=>(match ops[i]? with
  | some o=>readV o || r.all fun y=>al.contains y.1 || match ops[y.1]? with
   | some p=>p.after.any fun e=>Region.binds .any e && (e.on == i || ((r.map (·.1)).contains e.on && !al.contains e.on))
   | none=>false
  | none=>false) && chainOk ops al r
def ancB (ops:Array Oper):Nat -> Nat -> Nat -> Bool
 | 0,_,_=>false
 | n + 1,i,j=>match ops[j]? with
  | some o=>o.after.any fun e=>Region.binds .any e && (e.on == i || ancB ops n i e.on)
  | none=>false
def sixOk (ops:Array Oper):List Nat -> List (Nat × List Nat) -> Bool
 | _,[]=>true
 | pre,(i,cs) :: r=>(match ops[i]? with
  | some o=>readV o || pre.all fun k=>cs.contains k || ancB ops ops.size k i || (match ops[k]? with | some p=>!readV p | none=>true)
  | none=>false) && sixOk ops (i :: pre) r
def ssaOk (ops:Array Oper):Bool :=
 ops.toList.zipIdx.all fun (o,i)=>plainV o && ops.toList.zipIdx.all fun (p,j)=>match p.dst with
  | some d=>!((Oper.looks ops o).contains d) || o.after.any fun e=>Region.binds .any e && e.on == j
  | none=>true
def floatOk (ops:Array Oper) (pi:List (Nat × List Nat)):Bool :=
 (List.range ops.size).all (fun i=>(pi.map (·.1)).contains i) && decide (pi.map (·.1)).Nodup && linOk ops [] pi && chainOk ops [] pi && sixOk ops [] pi && ssaOk ops

section
variable {P:Program} {B:Base} {N:Nat} {st st':St} {β:Nat -> Info} {φ:Nat -> List Nat} {a a':Act} {w w':World}

theorem readV_pure {o:Oper} (h:readV o=true) (hl:lit0 o.op=false):pureOp o.op=true:=by
 unfold readV at h
 simp only [Bool.and_eq_true] at h
 obtain ⟨_,h⟩:=h
 split at h <;> rename_i eo <;> first | (rw [hl] at h;cases h;done) | (rw [eo];rfl)
theorem readV_dst {o:Oper} (h:readV o=true):∃ d,o.dst=some d:=by
 unfold readV at h
 simp only [Bool.and_eq_true] at h
 exact Option.isSome_iff_exists.1 h.1.2
theorem lit0_inv {op:Op} (h:lit0 op=true):∃ t,op=.buildSlice t 0 #[]:=by
 unfold lit0 at h
 split at h
 ·exact ⟨_,rfl⟩
 ·cases h
theorem opR_lit {o:Oper} (hl:lit0 o.op=true) {q:Prop} {r:Option AV} {s:St} (h:opR P st o=some (q,r,s)):r=some (.one .emp) /\ s=st /\ ∃ t e s' y zs,o.op=.buildSlice t 0 #[] /\ te P t=some (e,s',y) /\ tz P e=some zs /\ q=True:=by
 obtain ⟨t,et⟩:=lit0_inv hl
 unfold opR at h
 rw [hl,et] at h
 simp only at h
 split at h
 ·rename_i e s' y ht
  split at h
  ·rename_i zs hz
   cases h
   exact ⟨rfl,rfl,t,e,s',y,zs,et,ht,hz,rfl⟩
  ·cases h
 ·cases h
theorem pinN_spec {n:Nat} {v:Value} (h:pinN st=some (n,v)):∃ p,st.obj p=.pin n v:=by
 unfold pinN at h
 split at h
 ·rename_i p _
  split at h
  ·rename_i e
   cases h
   exact ⟨p,e⟩
  ·cases h
 ·cases h
theorem opL_env {env:List (Nat × AV)} {o:Oper} {q:Prop} {r:Option AV} {s:St} (hp:pureOp o.op=true) (hag:∀ t,Operand.tmp t ∈ o.op.operands -> find env t=find st.env t)
  (h:opL P st o=some (q,r,s)):∃ s2,opL P { st with env:=env } o=some (q,r,s2):=by
 unfold opL at h ⊢
 have hn:pinN { st with env:=env }=pinN st:=rfl
 rw [hn]
 split at h
 ·exact opS_env hp hag h
 ·split at h
  ·rename_i t x eo
   have key:∀ q r s,un st x (fun v=>loadR P st t v)=some (q,r,s) -> ∃ s2,un { st with env:=env } x (fun v=>loadR P { st with env:=env } t v)=some (q,r,s2):=fun q r s h =>
    un_env (fun t e=>hag t (by rw [eo];subst e;simp [Op.operands])) h fun v q r s e=>by
     unfold loadR at e ⊢
     simp only [ldp_env]
     split at e
     ·split at e
      ·split at e
       ·rename_i hc
        rw [if_pos hc]
        simp only [Option.map_eq_some_iff] at e ⊢
        obtain ⟨y,hy,e⟩:=e
        cases e
        exact ⟨_,y,hy,rfl⟩
       ·cases e
      ·cases e
     ·cases e
   cases hu:un st x (fun v=>loadR P st t v) with
   | none=>rw [hu] at h;cases h
   | some y =>
    obtain ⟨q1,r1,s1⟩:=y
    obtain ⟨s2,e2⟩:=key _ _ _ hu
    rw [hu] at h
    rw [e2]
    cases r1 with
    | none=>cases h;exact ⟨_,rfl⟩
    | some v1=>cases h;exact ⟨_,rfl⟩
  ·rename_i hno
   have:=opS_env hp hag h
   obtain ⟨s2,e2⟩:=this
   refine ⟨s2,?_⟩
   exact e2
theorem opR_env {env:List (Nat × AV)} {o:Oper} {q:Prop} {r:Option AV} {s:St} (hp:readV o=true) (hag:∀ t,Operand.tmp t ∈ o.op.operands -> find env t=find st.env t) (h:opR P st o=some (q,r,s)):∃ s2,opR P { st with env:=env } o=some (q,r,s2):=by
 cases hl:lit0 o.op with
 | true =>
  obtain ⟨rfl,rfl,t,e,s',y,zs,et,ht,hz,rfl⟩:=opR_lit hl h
  refine ⟨{ s with env:=env },?_⟩
  unfold opR
  rw [hl,et]
  simp only [ht,hz]
 | false =>
  unfold opR at h ⊢
  rw [hl] at h ⊢
  exact opL_env (readV_pure hp hl) hag h

theorem res_val {v:AV} {m:Sem Value} (hr:Res P (st.ctx w β φ) st st' (some v) m):∃ z,((do pure (.value (<- m)):Sem Next).run P w=.ok (.value z) w) /\ AVRel (st.ctx w β φ) v z:=by
 obtain ⟨rfl,r',z,hr',hz,hv⟩:=hr
 cases hr'
 have hz':m.run P w=.ok z w:=hz
 exact ⟨z,by simp [hz'],hv⟩

theorem sliceS_res (h:SR B N st β φ a w) {t:TypeId} {x:AV} {lo hi mx:Option AV} {q:Prop} {r:Option AV} {p:Value} {plo phi pmx:Option Value} (hs:sliceS P st t x lo hi mx=some (q,r,st')) (hq:q)
  (hx:AVRel (st.ctx w β φ) x p) (hlo:OptRel (st.ctx w β φ) lo plo) (hhi:OptRel (st.ctx w β φ) hi phi) (hmx:OptRel (st.ctx w β φ) mx pmx) :
  Res P (st.ctx w β φ) st st' r (Instr.sliceAt t p plo phi pmx):=by
 have le0:(st.ctx w β φ).Le (st.ctx w β φ):=⟨Nat.le_refl _,fun _ _ _=>rfl,fun _ h=>.inl h,fun o _ _=>⟨.refl _,fun _=>rfl⟩,Nat.le_refl _⟩
 unfold sliceS at hs
 split at hs
 ·rename_i k3 m
  cases pmx with
  | none=>exact hmx.elim
  | some pm =>
   obtain ⟨S,hm1,_⟩:=hmx
   cases hm1
   split at hs
   ·rename_i l k2 hh ei hl ht
    cases phi with
    | none=>exact hhi.elim
    | some ph =>
     obtain ⟨S,hm1,_⟩:=hhi
     cases hm1
     obtain ⟨hte,i,hi,_⟩:=te_spec (P:=P) (t:=t) (e:=ei.1) (s:=ei.2.1) (y:=ei.2.2) ht
     have key:∀ {base:Option Addr} {len cap:Nat},p=.slice base len cap -> l=0 /\ hh=0 /\ m=0 ->
       Res P (st.ctx w β φ) st st (some (.one .emp)) (Instr.sliceAt t p plo (some (.int k2 hh)) (some (.int k3 m))):=by
      intro base len cap hp hz
      subst hp
      obtain ⟨rfl,rfl,rfl⟩:=hz
      obtain ⟨b,hb⟩:=run_sl3 (P:=P) (w:=w) (base:=base) (len:=len) (cap:=cap) (k2:=k2) (k3:=k3) hte hi (bound_of hl hlo)
      exact ⟨rfl,_,_,rfl,hb,⟨b,rfl⟩⟩
     split at hs
     ·rename_i o
      obtain ⟨hn,hp⟩:=hx
      split at hs
      ·rename_i eo
       simp only [Option.some.injEq,Prod.mk.injEq] at hs
       obtain ⟨rfl,rfl,rfl⟩:=hs
       rw [show (st.ctx w β φ).ob o=_ from eo] at hp
       exact key hp hq
      ·rename_i eo
       simp only [Option.some.injEq,Prod.mk.injEq] at hs
       obtain ⟨rfl,rfl,rfl⟩:=hs
       rw [show (st.ctx w β φ).ob o=_ from eo] at hp
       exact key hp hq
      ·cases hs
     ·simp only [Option.some.injEq,Prod.mk.injEq] at hs
      obtain ⟨rfl,rfl,rfl⟩:=hs
      obtain ⟨S,hr,_⟩:=hx
      cases hr <;> exact key rfl hq
     ·simp only [Option.some.injEq,Prod.mk.injEq] at hs
      obtain ⟨rfl,rfl,rfl⟩:=hs
      obtain ⟨b,rfl⟩:=hx
      exact key rfl hq
     ·cases hs
   ·cases hs
 ·cases hs
 ·cases pmx with
  | some pm=>exact hmx.elim
  | none =>
   split at hs
   ·rename_i s
    split at hs
    ·rename_i l hh hl hh'
     split at hs
     ·rename_i ht
      simp only [Option.some.injEq,Prod.mk.injEq] at hs
      obtain ⟨rfl,rfl,rfl⟩:=hs
      obtain ⟨S,hr,_⟩:=hx
      cases hr
      exact ⟨rfl,_,_,rfl,run_str (tstr_spec ht) (bound_of hl hlo) (bound_of hh' hhi) hq.1 hq.2.1 hq.2.2,leaf_flat (.str _)⟩
     ·cases hs
    ·cases hs
   ·rename_i sz rows
    split at hs
    ·rename_i l hh e s y hl hh' ht
     simp only [Option.some.injEq,Prod.mk.injEq] at hs
     obtain ⟨rfl,rfl,rfl⟩:=hs
     obtain ⟨rfl,h0,h1,h2⟩:=hq
     obtain ⟨hte,i,hi,hsz,_⟩:=te_spec ht
     obtain ⟨S,hr,hM⟩:=hx
     have hr0:Rep w (.sl sz rows) p S:=hr
     have hcap:∃ base cap,p=.slice base rows.length cap /\ rows.length <= cap:=by
      cases hr0 with
      | nil _ a cap=>exact ⟨_,_,rfl,by simp⟩
      | sl _ _ b off cap vs S hb hsz hl hc hcap=>exact ⟨_,_,rfl,hcap⟩
     obtain ⟨base,cap,rfl,hcap⟩:=hcap
     obtain ⟨S',hr',hsub⟩:=rep_part hr0 (l:=l.toNat) (h:=hh.toNat) (by omega) (by omega)
     refine ⟨rfl,_,_,rfl,run_sl hte hi (bound_of hl hlo) (bound_of hh' hhi) h0 h1 h2 hcap,S',?_,fun x hx=>hM x (hsub x hx)⟩
     rw [hsz]
     exact hr'
    ·cases hs
   ·rename_i o
    obtain ⟨hn,hp⟩:=hx
    split at hs
    ·rename_i sz sep rows eo
     rw [show (st.ctx w β φ).ob o=_ from eo] at hp
     simp only at hp
     subst hp
     split at hs
     ·rename_i l hh e s y hl hh' ht
      simp only [Option.some.injEq,Prod.mk.injEq] at hs
      obtain ⟨rfl,rfl,rfl⟩:=hs
      obtain ⟨rfl,h0,h1,h2⟩:=hq
      obtain ⟨hte,i,hi,hsz,_⟩:=te_spec ht
      have ho:=h.objs o
      unfold ObjRel at ho
      rw [show (st.ctx w β φ).ob o=_ from eo] at ho
      have hcap:rows.length <= (β o).cap:=ho.2.1
      refine ⟨rfl,_,_,rfl,run_sl' hte hi (bound_of hl hlo) (bound_of hh' hhi) h0 h1 (by show hh <= ((β o).cap:Int);omega),hn,?_⟩
      rw [show (st.ctx w β φ).ob o=_ from eo]
      refine ⟨by omega,_,rfl,fun hlt=>?_⟩
      rw [if_neg (by have:l.toNat < (β o).cap:=hlt;show ¬ (β o).cap=l.toNat;omega),hsz]
     ·cases hs
    ·rename_i sz m rows eo
     rw [show (st.ctx w β φ).ob o=_ from eo] at hp
     simp only at hp
     subst hp
     split at hs
     ·rename_i l hh e s y hl hh' ht
      simp only [Option.some.injEq,Prod.mk.injEq] at hs
      obtain ⟨rfl,rfl,rfl⟩:=hs
      obtain ⟨rfl,h0,h1,h2⟩:=hq
      obtain ⟨hte,i,hi,hsz,_⟩:=te_spec ht
      have ho:=h.objs o
      unfold ObjRel at ho
      rw [show (st.ctx w β φ).ob o=_ from eo] at ho
      have hcap:rows.length <= (β o).cap:=Nat.le_of_eq ho.2.2.1
      refine ⟨rfl,_,_,rfl,run_sl' hte hi (bound_of hl hlo) (bound_of hh' hhi) h0 h1 (by show hh <= ((β o).cap:Int);omega),hn,?_⟩
      rw [show (st.ctx w β φ).ob o=_ from eo]
      refine ⟨by omega,_,rfl,fun hlt=>?_⟩
      rw [if_neg (by have:l.toNat < (β o).cap:=hlt;show ¬ (β o).cap=l.toNat;omega),hsz]
     ·cases hs
    ·rename_i sz rows eo
     rw [show (st.ctx w β φ).ob o=_ from eo] at hp
     simp only at hp
     subst hp
     split at hs
     ·rename_i l hh e s y hl hh' ht
      simp only [Option.some.injEq,Prod.mk.injEq] at hs
      obtain ⟨rfl,rfl,rfl⟩:=hs
      obtain ⟨rfl,h0,h1,h2⟩:=hq
      obtain ⟨hte,i,hi,hsz,_⟩:=te_spec ht
      have ho:=h.objs o
      unfold ObjRel at ho
      rw [show (st.ctx w β φ).ob o=_ from eo] at ho
      obtain ⟨_,_,S,hr,hM⟩:=ho
      have hr0:Rep w (.sl sz rows) (.slice (β o).base rows.length (β o).cap) S:=hr
      have hcap:rows.length <= (β o).cap:=by
       generalize hln:rows.length=ln at hr0 ⊢
       generalize (β o).base=base at hr0
       generalize (β o).cap=cap at hr0 ⊢
       cases hr0 with
       | nil=>omega
       | sl _ _ b off _ vs S hb hsz hl hc hcap=>omega
      obtain ⟨S',hr',hsub⟩:=rep_part hr0 (l:=l.toNat) (h:=hh.toNat) (by omega) (by omega)
      refine ⟨rfl,_,_,rfl,run_sl hte hi (bound_of hl hlo) (bound_of hh' hhi) h0 h1 h2 hcap,S',?_,fun x hx=>hM x (hsub x hx)⟩
      rw [hsz]
      exact hr'
     ·cases hs
    ·cases hs
   ·rename_i o i0 n0
    obtain ⟨hn,hp⟩:=hx
    have key:∀ {sz:Nat} {rows:List (List D)} {l hh:Int} {ei:TypeId × Nat × Nat} {bs:Option Addr},p=.slice bs n0 ((β o).cap - i0) -> (i0 < (β o).cap -> bs=(β o).base.map (·.add (i0 * sz))) -> rows.length <= (β o).cap -> i0 + n0 <= rows.length ->
      (∀ x,(β o).base=some x -> x.spot=none) -> boundS 0 lo=some l -> boundS n0 hi=some hh -> te P t=some ei -> sz=ei.2.1 -> 0 <= l -> l <= hh -> i0 + hh <= rows.length ->
      ∃ bs' cap',(Instr.sliceAt t p plo phi none).run P w=.ok (.slice bs' (hh.toNat - l.toNat) cap') w /\ cap'=(β o).cap - (i0 + l.toNat) /\ (i0 + l.toNat < (β o).cap -> bs'=(β o).base.map (·.add ((i0 + l.toNat) * sz))):=by
     intro sz rows l hh ei bs hp' hbs hcap hfit hspot hl hh' ht hsz h0 h1 h2
     obtain ⟨hte,i,hi,hsz',_⟩:=te_spec (P:=P) (t:=t) (e:=ei.1) (s:=ei.2.1) (y:=ei.2.2) ht
     subst hp'
     refine ⟨_,_,run_sl' hte hi (bound_of hl hlo) (bound_of hh' hhi) h0 h1 (by omega),by omega,fun hlt=>?_⟩
     rw [if_neg (by omega),hbs (by omega),hsz',<- hsz]
     cases hb:(β o).base with
     | none=>rfl
     | some x =>
      have hx:=hspot x hb
      obtain ⟨xb,xo,xs⟩:=x
      simp only at hx
      subst hx
      simp only [Option.map_some,Addr.add_lit,Nat.add_mul,Nat.add_assoc]
    have ho:=h.objs o
    unfold ObjRel at ho
    split at hs
    ·rename_i sz sep rows eo
     rw [show (st.ctx w β φ).ob o=_ from eo] at hp ho
     obtain ⟨hfit,bs,hp',hbs⟩:=hp
     split at hs
     ·rename_i l hh e s y hl hh' ht
      simp only [Option.some.injEq,Prod.mk.injEq] at hs
      obtain ⟨rfl,rfl,rfl⟩:=hs
      obtain ⟨rfl,h0,h1,h2⟩:=hq
      by_cases hc0:i0 < (β o).cap
      ·obtain ⟨bs',cap',g1,g2,g3⟩:=key hp' hbs ho.2.1 hfit (fun x hx=>by
        rcases ho.2.2 with ⟨_,hz⟩ | ⟨b,T,S,E,vs,hb,_⟩
        ·have hz':(β o).cap=0:=hz
         omega
        ·have hb':(β o).base=some ⟨b,0,none⟩:=hb
         rw [hb'] at hx;cases hx;rfl) hl hh' ht rfl h0 h1 h2
       subst g2
       refine ⟨rfl,_,_,rfl,g1,hn,?_⟩
       rw [show (st.ctx w β φ).ob o=_ from eo]
       exact ⟨by omega,bs',rfl,g3⟩
      ·obtain ⟨hte,i,hi,hsz',_⟩:=te_spec ht
       subst hp'
       refine ⟨rfl,_,_,rfl,run_sl' hte hi (bound_of hl hlo) (bound_of hh' hhi) h0 h1 (by have:=ho.2.1;have:rows.length <= (β o).cap:=this;omega),hn,?_⟩
       rw [show (st.ctx w β φ).ob o=_ from eo]
       refine ⟨by omega,_,congrArg (Value.slice _ _) (Nat.sub_sub _ _ _),fun hlt=>?_⟩
       have:i0 + l.toNat < (β o).cap:=hlt
       omega
     ·cases hs
    ·rename_i sz m rows eo
     rw [show (st.ctx w β φ).ob o=_ from eo] at hp ho
     obtain ⟨hfit,bs,hp',hbs⟩:=hp
     have hcap:rows.length=(β o).cap:=ho.2.2.1
     split at hs
     ·rename_i l hh e s y hl hh' ht
      simp only [Option.some.injEq,Prod.mk.injEq] at hs
      obtain ⟨rfl,rfl,rfl⟩:=hs
      obtain ⟨rfl,h0,h1,h2⟩:=hq
      by_cases hc0:i0 < (β o).cap
      ·obtain ⟨bs',cap',g1,g2,g3⟩:=key hp' hbs (Nat.le_of_eq hcap) hfit (fun x hx=>by
        rcases ho.2.2.2 with ⟨_,hz⟩ | ⟨b,T,vs,hb,_⟩
        ·have hz':(β o).cap=0:=hz
         omega
        ·have hb':(β o).base=some ⟨b,0,none⟩:=hb
         rw [hb'] at hx;cases hx;rfl) hl hh' ht rfl h0 h1 h2
       subst g2
       refine ⟨rfl,_,_,rfl,g1,hn,?_⟩
       rw [show (st.ctx w β φ).ob o=_ from eo]
       exact ⟨by omega,bs',rfl,g3⟩
      ·obtain ⟨hte,i,hi,hsz',_⟩:=te_spec ht
       subst hp'
       refine ⟨rfl,_,_,rfl,run_sl' hte hi (bound_of hl hlo) (bound_of hh' hhi) h0 h1 (by omega),hn,?_⟩
       rw [show (st.ctx w β φ).ob o=_ from eo]
       refine ⟨by omega,_,congrArg (Value.slice _ _) (Nat.sub_sub _ _ _),fun hlt=>?_⟩
       have:i0 + l.toNat < (β o).cap:=hlt
       omega
     ·cases hs
    ·cases hs
   ·split at hs
    ·rename_i l hh ei hl hh' ht
     simp only [Option.some.injEq,Prod.mk.injEq] at hs
     obtain ⟨rfl,rfl,rfl⟩:=hs
     obtain ⟨rfl,rfl⟩:=hq
     obtain ⟨hte,i,hi,_⟩:=te_spec (P:=P) (t:=t) (e:=ei.1) (s:=ei.2.1) (y:=ei.2.2) ht
     obtain ⟨b,rfl⟩:=hx
     have hr:=run_sl (P:=P) (w:=w) (base:=b) (len:=0) (cap:=0) hte hi (bound_of hl hlo) (bound_of hh' hhi) (Int.le_refl _) (Int.le_refl _) (by simp) (Nat.le_refl _)
     exact ⟨rfl,_,_,rfl,hr,⟨_,rfl⟩⟩
    ·cases hs
   ·split at hs
    ·rename_i n e s ht
     simp only [Option.some.injEq,Prod.mk.injEq] at hs
     obtain ⟨rfl,rfl,rfl⟩:=hs
     obtain ⟨rfl,rfl,rfl,hi⟩:=hq
     cases plo with
     | some _=>exact hlo.elim
     | none=>cases phi with
      | some _=>exact hhi.elim
      | none =>
       obtain ⟨a',rfl,S,hr,hM⟩:=ro_slice hx hi
       have hrun:=run_arr_all (P:=P) (w:=w) (a:=a') ht
       rw [ite_self] at hrun
       exact ⟨rfl,_,_,rfl,hrun,S,hr,hM⟩
    ·cases hs
   ·cases hs
theorem read_sound0 (h:SR B N st β φ a w) {o:Oper} {q:Prop} {v:AV} (hr:readV o=true) (hl:lit0 o.op=false) (hs:opS P st o=some (q,some v,st')) (hq:q) :
  ∃ z,(execOp a.eval o).run P w=.ok (.value z) w /\ AVRel (st.ctx w β φ) v z:=by
 unfold readV at hr
 simp only [Bool.and_eq_true] at hr
 obtain ⟨_,hr⟩:=hr
 unfold opS at hs
 unfold execOp
 split at hr <;> rename_i eo <;> first | (rw [hl] at hr;cases hr;done) | simp only [eo] at hs ⊢
 ·obtain ⟨p,v,q',h1,h2,hp,hq'⟩:=un_inv hs hq
  simp only [Option.some.injEq,Prod.mk.injEq] at h2
  obtain ⟨rfl,rfl,rfl⟩:=h2
  exact ⟨_,by simp,opA_sound h h1 hp⟩
 ·obtain ⟨p,v,q',h1,h2,hp,hq'⟩:=un_inv hs hq
  simp only [Option.some.injEq,Prod.mk.injEq] at h2
  obtain ⟨rfl,rfl,rfl⟩:=h2
  exact ⟨_,by simp,opA_sound h h1 hp⟩
 ·exact res_val (buildS_sound h hs hq)
 ·obtain ⟨p,v,q',h1,h2,hp,hq'⟩:=un_inv hs hq
  exact res_val (loadS_sound h h2 hq' (opA_sound h h1 hp))
 ·obtain ⟨p,v,q',h1,h2,hp,hq'⟩:=un_inv hs hq
  exact res_val (unS_sound h2 hq' (opA_sound h h1 hp))
 ·obtain ⟨p,v,q',h1,h2,hp,hq'⟩:=un_inv hs hq
  exact res_val (faddrS_sound h h2 hq' (opA_sound h h1 hp))
 ·obtain ⟨p,v,q',h1,h2,hp,hq'⟩:=un_inv hs hq
  exact res_val (fieldS_sound h h2 hq' (opA_sound h h1 hp))
 ·obtain ⟨p,v,q',h1,h2,hp,hq'⟩:=un_inv hs hq
  obtain ⟨p2,v2,q2,h3,h4,hp2,hq2⟩:=un_inv h2 hq'
  exact res_val (iaddrS_sound h h4 hq2 (opA_sound h h1 hp) (opA_sound h h3 hp2))
 ·obtain ⟨p,v,q',h1,h2,hp,hq'⟩:=un_inv hs hq
  obtain ⟨p2,v2,q2,h3,h4,hp2,hq2⟩:=un_inv h2 hq'
  exact res_val (indexS_sound h h4 hq2 (opA_sound h h1 hp) (opA_sound h h3 hp2))
 ·obtain ⟨p,v,q',h1,h2,hp,hq'⟩:=un_inv hs hq
  exact res_val (extractS_sound h2 hq' (opA_sound h h1 hp))
 ·obtain ⟨p,v,q',h1,h2,hp,hq'⟩:=un_inv hs hq
  obtain ⟨p2,v2,q2,h3,h4,hp2,hq2⟩:=un_inv h2 hq'
  exact res_val (binS_sound h4 hq2 (opA_sound h h1 hp) (opA_sound h h3 hp2))
 ·obtain ⟨p,v,q',h1,h2,hp,hq'⟩:=un_inv hs hq
  obtain ⟨l,q2,h3,hq2,r2⟩:=un?_inv h h2 hq'
  obtain ⟨hh,q3,h4,hq3,r3⟩:=un?_inv h h3 hq2
  obtain ⟨m,q4,h5,hq4,r4⟩:=un?_inv h h4 hq3
  exact res_val (sliceS_res h h5 hq4 (opA_sound h h1 hp) r2 r3 r4)
 ·rename_i hd ats
  unfold builtinS at hs
  simp only at hs
  match hat:ats.toList with
  | [t0] =>
   rw [hat] at hs
   simp only at hs
   have hat:ats=#[t0]:=by rw [<- Array.toArray_toList (xs:=ats),hat]
   subst hat
   obtain ⟨p,v,q',h1,h2,hp,hq'⟩:=un_inv hs hq
   obtain ⟨z,e1,e2⟩:=res_val (lenS_ok (ty:=o.type) h h2 hq' (opA_sound h h1 hp))
   refine ⟨z,?_,e2⟩
   have hm:({ toList:=[hd] }:Array Operand).map a.eval=#[a.eval hd]:=by simp
   rw [resolve_builtin,hm]
   simp only [builtin]
   exact e1
  | []=>rw [hat] at hs;cases hs
  | _ :: _ :: _=>rw [hat] at hs;cases hs

theorem loadR_sound (h:SR B N st β φ a w) {t:TypeId} {u:AV} {q:Prop} {r:Option AV} {p:Value} (hs:loadR P st t u=some (q,r,st')) (hq:q)
  (hu:AVRel (st.ctx w β φ) u p):Res P (st.ctx w β φ) st st' r (Instr.loadAt t p):=by
 unfold loadR at hs
 split at hs
 ·rename_i pt
  split at hs
  ·rename_i agg s ht
   split at hs
   ·rename_i hc
    cases e:ldp st agg s pt with
    | none=>rw [e] at hs;cases hs
    | some x =>
     obtain ⟨q',r'⟩:=x
     rw [e] at hs
     simp only [Option.map_some,Option.some.injEq,Prod.mk.injEq] at hs
     obtain ⟨rfl,rfl,rfl⟩:=hs
     obtain ⟨x,rfl,hat⟩:=ldp_sound h hu (fun ha=>by subst ha;simpa using hc) e hq
     obtain ⟨z,hz,hr⟩:=run_at ht hat
     refine ⟨rfl,r',z,rfl,by simp [Instr.loadAt,Instr.sureAddr,hz],?_⟩
     cases r' with
     | one l=>exact hr
     | agg ls=>exact hr
     | tup vs=>exact hr.elim
     | ifg b v=>exact hr.elim
   ·cases hs
  ·cases hs
 ·cases hs
theorem pin_leaf {C:Ctx} {n:Nat} {v':Value} (hp:LeafRel C (.own n) v') {l:Leaf} {x:Value} (hl:LeafRel C l x) (hq:(pinF n v' l).1):LeafRel C (pinF n v' l).2 x:=by
 unfold pinF at hq ⊢
 split at hq
 ·rename_i v
  obtain ⟨S,hr,_⟩:=hl
  have hv:v=v':=hq
  cases hr
  subst hv
  exact hp
 ·exact hl
theorem pin_av {C:Ctx} {n:Nat} {v':Value} (hp:LeafRel C (.own n) v') {u:AV} {x:Value} (hu:AVRel C u x) (hq:(pinA n v' u).1):AVRel C (pinA n v' u).2 x:=by
 cases u with
 | one l=>exact pin_leaf hp hu hq
 | agg ls =>
  obtain ⟨vs,rfl,h1,h2⟩:=hu
  refine ⟨vs,rfl,by rw [List.length_map];exact h1,fun j l hj=>?_⟩
  rw [List.getElem?_map] at hj
  cases e:ls[j]? with
  | none=>rw [e] at hj;cases hj
  | some l0 =>
   rw [e] at hj
   cases hj
   obtain ⟨v,hv,hl⟩:=h2 j l0 e
   exact ⟨v,hv,pin_leaf hp hl (hq l0 (List.mem_of_getElem? e))⟩
 | tup vs=>exact hu
 | ifg b v=>exact hu
theorem read_soundL (h:SR B N st β φ a w) {o:Oper} {q:Prop} {v:AV} (hr:readV o=true) (hl:lit0 o.op=false) (hs:opL P st o=some (q,some v,st')) (hq:q) :
  ∃ z,(execOp a.eval o).run P w=.ok (.value z) w /\ AVRel (st.ctx w β φ) v z:=by
 unfold opL at hs
 split at hs
 ·exact read_sound0 h hr hl hs hq
 ·rename_i n v' hn
  obtain ⟨p,hp⟩:=pinN_spec hn
  have hpin:=h.objs p
  unfold ObjRel at hpin
  rw [show (st.ctx w β φ).ob p=_ from hp] at hpin
  split at hs
  ·rename_i t x eo
   cases hu:un st x (fun v=>loadR P st t v) with
   | none=>rw [hu] at hs;cases hs
   | some y =>
    obtain ⟨q1,r1,s1⟩:=y
    rw [hu] at hs
    cases r1 with
    | none=>cases hs
    | some v1 =>
     cases hs
     obtain ⟨z0,u0,q',h1,h2,hp1,hq'⟩:=un_inv hu hq.1
     have:=res_val (loadR_sound h h2 hq' (opA_sound h h1 hp1))
     obtain ⟨z,e1,e2⟩:=this
     refine ⟨z,?_,pin_av hpin.2 e2 hq.2⟩
     unfold execOp
     rw [eo]
     exact e1
  ·exact read_sound0 h hr hl hs hq
theorem read_sound (h:SR B N st β φ a w) {o:Oper} {q:Prop} {v:AV} (hr:readV o=true) (hs:opR P st o=some (q,some v,st')) (hq:q) :
  ∃ z w',(execOp a.eval o).run P w=.ok (.value z) w' /\ Frm w (fun _=>False) w' /\ AVRel (st.ctx w β φ) v z:=by
 cases hl:lit0 o.op with
 | false =>
  unfold opR at hs
  rw [hl] at hs
  obtain ⟨z,h1,h2⟩:=read_soundL h hr hl hs hq
  exact ⟨z,w,h1,Frm.refl w _,h2⟩
 | true =>
  obtain ⟨hv,_,t,e,s',y,zs,et,ht,hz,_⟩:=opR_lit hl hs
  cases hv
  obtain ⟨hte,i,hi,hsz,_⟩:=te_spec ht
  refine ⟨.slice (some ⟨w.heap.size,0,none⟩) 0 0,w.alloc (.cells #[] e),?_,(Frm.refl w _).alloc _,⟨_,rfl⟩⟩
  unfold execOp
  rw [et]
  simp [Instr.buildSlice,run_underlying hte,sizeOf,typeInfo,hi,hsz,newRow,Instr.fill]
  rw [Array.eq_empty_of_size_eq_zero (xs:=Array.map (fun x=>default) (Array.range 0)) (by simp)]

def Near (D:Nat -> Prop) (a a':Act):Prop:=a.tmps.size=a'.tmps.size /\ a.defers=a'.defers /\ ∀ t,¬ D t -> a.tmps[t]?=a'.tmps[t]?
theorem Near.refl (D:Nat -> Prop) (a:Act):Near D a a:=⟨rfl,rfl,fun _ _=>rfl⟩
theorem Near.mono {D D':Nat -> Prop} (h:Near D a a') (hd:∀ t,D t -> D' t):Near D' a a':=⟨h.1,h.2.1,fun t ht=>h.2.2 t fun h'=>ht (hd t h')⟩
theorem Near.put {D:Nat -> Prop} (h:Near D a a') (d:Option Tmp) (x:Value):Near D (a.put d x) (a'.put d x):=by
 obtain ⟨h1,h2,h3⟩:=h
 cases d with
 | none=>exact ⟨h1,h2,h3⟩
 | some d =>
  refine ⟨by simp [Act.put,h1],h2,fun t ht=>?_⟩
  show (a.tmps.setIfInBounds d x)[t]?=(a'.tmps.setIfInBounds d x)[t]?
  by_cases e:d=t
  ·subst e
   rw [Array.getElem?_setIfInBounds_self,Array.getElem?_setIfInBounds_self,h1]
  ·rw [Array.getElem?_setIfInBounds_ne e,Array.getElem?_setIfInBounds_ne e]
   exact h3 t ht
theorem Near.put1 {D D':Nat -> Prop} (h:Near D a a') (d:Tmp) (x:Value) (hd:∀ t,D t -> t=d \/ D' t):Near D' (a.put (some d) x) (a'.put (some d) x):=by
 obtain ⟨h1,h2,h3⟩:=h
 refine ⟨by simp [Act.put,h1],h2,fun t ht=>?_⟩
 show (a.tmps.setIfInBounds d x)[t]?=(a'.tmps.setIfInBounds d x)[t]?
 by_cases e:d=t
 ·subst e
  rw [Array.getElem?_setIfInBounds_self,Array.getElem?_setIfInBounds_self,h1]
 ·rw [Array.getElem?_setIfInBounds_ne e,Array.getElem?_setIfInBounds_ne e]
  exact h3 t fun h'=>(hd t h').elim (fun h=>e h.symm) ht
theorem Near.putR {D:Nat -> Prop} (h:Near D a a') (d:Tmp) (x:Value) (hd:D d):Near D a (a'.put (some d) x):=by
 obtain ⟨h1,h2,h3⟩:=h
 refine ⟨by simp [Act.put,h1],h2,fun t ht=>?_⟩
 have hne:d ≠ t:=fun e=>ht (by rw [<- e];exact hd)
 show a.tmps[t]?=(a'.tmps.setIfInBounds d x)[t]?
 rw [Array.getElem?_setIfInBounds_ne hne]
 exact h3 t ht
theorem Near.eq {D:Nat -> Prop} (h:Near D a a') (hd:∀ t,¬ D t):a=a':=by
 obtain ⟨h1,h2,h3⟩:=h
 obtain ⟨t1,d1⟩:=a
 obtain ⟨t2,d2⟩:=a'
 have h2:d1=d2:=h2
 have:t1=t2:=by
  apply Array.ext_getElem?
  intro i
  exact h3 i (hd i)
 rw [h2,this]
theorem Near.eval {D:Nat -> Prop} (h:Near D a a') {x:Operand} (hx:∀ t,x=.tmp t -> ¬ D t):a.eval x=a'.eval x:=by
 cases x with
 | tmp t =>
  show a.tmps.getD t undef=a'.tmps.getD t undef
  rw [Array.getD_eq_getD_getElem?,Array.getD_eq_getD_getElem?,h.2.2 t (hx t rfl)]
 | const v=>rfl
 | func f=>rfl
 | global g=>rfl

theorem wp_near {D:Nat -> Prop} (hn:Near D a a') {o:Oper} (hop:∀ x ∈ o.op.operands,a.eval x=a'.eval x) (hsel:∀ cs b,o.op ≠ .select cs b) {next:Act -> World -> Prop} {Q:Exit -> Act -> World -> Prop}
  (h:o.wp P a' w (fun b w=>∀ c,Near D c b -> next c w) (fun e b w=>∀ c,Near D c b -> Q e c w)):o.wp P a w next Q:=by
 have hlo:LetsOut (fun e b w=>∀ c,Near D c b -> Q e c w) -> LetsOut Q:=fun ⟨b,w,hb⟩=>⟨b,w,hb b (Near.refl D b)⟩
 unfold Oper.wp at h ⊢
 rw [execOp_congr o hsel hop]
 generalize (execOp a'.eval o).run P w=r at h ⊢
 unfold Oper.upon at h ⊢
 split at h
 ·exact h _ (hn.put _ _)
 ·exact h _ (hn.put _ _)
 ·rename_i d w'
  have h0:Near D { a with defers:=d :: a.defers } { a' with defers:=d :: a'.defers }:=⟨hn.1,by show d :: a.defers=d :: a'.defers;rw [hn.2.1],hn.2.2⟩
  exact h _ (h0.put _ _)
 ·refine h.mono fun e w'' he=>?_
  cases e with
  | returned v=>exact he _ (hn.put _ _)
  | panicked c=>exact he _ hn
  | outgrown=>exact hlo he
 ·exact h.mono fun v w'' he=>he _ (hn.put _ _)
 ·exact h _ hn
 ·exact h.elim

theorem linOk_spec {ops:Array Oper}:∀ {A:List (Nat × List Nat)} {acc:List Nat} {x:Nat × List Nat} {C:List (Nat × List Nat)},linOk ops acc (A ++ x :: C)=true -> ∃ o,ops[x.1]?=some o /\ ∀ e ∈ o.after,Region.binds .any e=true -> e.on ∈ acc \/ e.on ∈ A.map (·.1)
 | [],acc,x,C,h=>by
  simp only [List.nil_append,linOk,Bool.and_eq_true] at h
  obtain ⟨h,_⟩:=h
  split at h
  ·rename_i o ho
   refine ⟨o,ho,fun e he hb=>.inl ?_⟩
   have:=(Array.all_eq_true_iff_forall_mem.1 h) e he
   simpa [hb] using this
  ·cases h
 | y :: A,acc,x,C,h=>by
  simp only [List.cons_append,linOk,Bool.and_eq_true] at h
  obtain ⟨o,ho,h2⟩:=linOk_spec h.2
  refine ⟨o,ho,fun e he hb=>?_⟩
  rcases h2 e he hb with h3 | h3
  ·rcases List.mem_cons.1 h3 with h4 | h4
   ·exact .inr (by rw [List.map_cons,h4];exact List.mem_cons_self ..)
   ·exact .inl h4
  ·exact .inr (by rw [List.map_cons];exact List.mem_cons_of_mem _ h3)
theorem chainOk_spec {ops:Array Oper} {al:List Nat}:∀ {A:List (Nat × List Nat)} {x:Nat × List Nat} {C:List (Nat × List Nat)},chainOk ops al (A ++ x :: C)=true -> ∀ o,ops[x.1]?=some o -> readV o=false -> ∀ y ∈ C,y.1 ∉ al -> ∀ p,ops[y.1]?=some p -> ∃ e ∈ p.after,Region.binds .any e=true /\ (e.on=x.1 \/ (e.on ∈ C.map (·.1) /\ e.on ∉ al))
 | [],x,C,h,o,ho,hr,y,hy,hya,p,hp=>by
  simp only [List.nil_append,chainOk,Bool.and_eq_true,ho,hr,Bool.false_or] at h
  have h1:=List.all_eq_true.1 h.1 y hy
  have ha:al.contains y.1=false:=by simpa using hya
  simp only [hp,ha,Bool.false_or] at h1
  obtain ⟨m,hm,h2⟩:=Array.any_eq_true.1 h1
  simp only [Bool.and_eq_true,Bool.or_eq_true,beq_iff_eq] at h2
  exact ⟨p.after[m],Array.getElem_mem hm,h2.1,h2.2.imp id fun h=>⟨by simpa using h.1,by simpa using h.2⟩⟩
 | z :: A,x,C,h,o,ho,hr,y,hy,hya,p,hp=>by
  simp only [List.cons_append,chainOk,Bool.and_eq_true] at h
  exact chainOk_spec h.2 o ho hr y hy hya p hp
theorem sixOk_spec {ops:Array Oper}:∀ {A:List (Nat × List Nat)} {acc:List Nat} {x:Nat × List Nat} {C:List (Nat × List Nat)},sixOk ops acc (A ++ x :: C)=true -> ∀ o,ops[x.1]?=some o -> readV o=false -> ∀ k,k ∈ acc \/ k ∈ A.map (·.1) -> ∀ p,ops[k]?=some p -> readV p=true -> k ∈ x.2 \/ ancB ops ops.size k x.1=true
 | [],acc,x,C,h,o,ho,hr,k,hk,p,hp,hrp=>by
  simp only [List.nil_append,sixOk,Bool.and_eq_true,ho,hr,Bool.false_or] at h
  have h1:=List.all_eq_true.1 h.1 k (by rcases hk with h | h;exact h;simp at h)
  simp only [hp,hrp,Bool.not_true,Bool.or_false,Bool.or_eq_true] at h1
  exact h1.imp (fun h=>by simpa using h) id
 | z :: A,acc,x,C,h,o,ho,hr,k,hk,p,hp,hrp=>by
  simp only [List.cons_append,sixOk,Bool.and_eq_true] at h
  refine sixOk_spec h.2 o ho hr k ?_ p hp hrp
  rcases hk with h | h
  ·exact .inl (List.mem_cons_of_mem _ h)
  ·rw [List.map_cons] at h
   rcases List.mem_cons.1 h with h | h
   ·exact .inl (by rw [h];exact List.mem_cons_self ..)
   ·exact .inr h
theorem ancB_listed {ops:Array Oper} {listed:Array Bool} (hcl:∀ (j:Nat) (o:Oper),ops[j]?=some o -> listed.getD j true=true -> ∀ e ∈ o.after,Region.binds .any e=true -> listed.getD e.on true=true) :
  ∀ (n i j:Nat),ancB ops n i j=true -> (∀ o,ops[j]?=some o -> ∀ e ∈ o.after,Region.binds .any e=true -> listed.getD e.on true=true) -> listed.getD i true=true
 | 0,i,j,h,_=>by cases h
 | n + 1,i,j,h,hj=>by
  unfold ancB at h
  split at h
  ·rename_i o ho
   obtain ⟨m,hm,h2⟩:=Array.any_eq_true.1 h
   simp only [Bool.and_eq_true,Bool.or_eq_true,beq_iff_eq] at h2
   have hl:=hj o ho _ (Array.getElem_mem hm) h2.1
   rcases h2.2 with h3 | h3
   ·rw [h3] at hl;exact hl
   ·exact ancB_listed hcl n i _ h3 fun o' ho'=>hcl _ o' ho' hl
  ·cases h
theorem ssaOk_spec {ops:Array Oper} (h:ssaOk ops=true) {i j:Nat} {o p:Oper} (ho:ops[i]?=some o):plainV o=true /\ (ops[j]?=some p -> ∀ d,p.dst=some d -> Operand.tmp d ∈ o.op.operands -> ∃ e ∈ o.after,Region.binds .any e=true /\ e.on=j):=by
 have mem:∀ (j:Nat) (o:Oper),ops[j]?=some o -> (o,j) ∈ ops.toList.zipIdx:=fun j o hj=>by
  rw [List.mem_zipIdx_iff_getElem?]
  simpa using hj
 unfold ssaOk at h
 have h1:=List.all_eq_true.1 h _ (mem i o ho)
 simp only [Bool.and_eq_true] at h1
 refine ⟨h1.1,fun hp d hd hm=>?_⟩
 have h2:=List.all_eq_true.1 h1.2 _ (mem j p hp)
 simp only [hd,Bool.or_eq_true] at h2
 have hl:d ∈ Oper.looks ops o:=by
  unfold Oper.looks
  exact List.mem_append_left _ (List.mem_filterMap.2 ⟨.tmp d,Array.mem_toList_iff.2 hm,rfl⟩)
 rcases h2 with h2 | h2
 ·simp [hl] at h2
 ·obtain ⟨m,hm,h3⟩:=Array.any_eq_true.1 h2
  simp only [Bool.and_eq_true,beq_iff_eq] at h3
  exact ⟨o.after[m],Array.getElem_mem hm,h3.1,h3.2⟩

theorem keptV_inv {x:Oper} (h:keptV P st (some x)):∃ d v q s,x.dst=some d /\ find st.env d=some v /\ opR P st x=some (q,some v,s) /\ q:=by
 unfold keptV at h
 simp only at h
 split at h
 ·rename_i d hd
  split at h
  ·rename_i v hv
   unfold sameV at h
   split at h
   ·rename_i q u s e
    obtain ⟨hq,h⟩:=h
    have h:u=v:=h
    subst h
    exact ⟨d,u,q,s,hd,hv,e,hq⟩
   ·exact h.elim
  ·exact h.elim
 ·exact h.elim
theorem keptV_intro {x:Oper} {d:Nat} {v:AV} {q:Prop} {s:St} (hd:x.dst=some d) (hv:find st.env d=some v) (he:opR P st x=some (q,some v,s)) (hq:q):keptV P st (some x):=by
 unfold keptV
 simp only [hd,hv]
 unfold sameV
 rw [he]
 exact ⟨hq,rfl⟩
theorem keptV_put {x:Oper} (hr:readV x=true) (h:keptV P st (some x)) {d:Nat} {v:AV} (h1:x.dst ≠ some d) (h2:Operand.tmp d ∉ x.op.operands):keptV P (st.put d v) (some x):=by
 obtain ⟨d',v',q,s,e1,e2,e3,e4⟩:=keptV_inv h
 obtain ⟨s2,e5⟩:=opR_env (env:=(d,v) :: st.env) hr (fun t ht=>find_cons_ne _ _ fun e=>h2 (e ▸ ht)) e3
 exact keptV_intro e1 (by show find ((d,v) :: st.env) d'=_;rw [find_cons_ne _ _ fun e=>h1 (by rw [e1,e])];exact e2) e5 e4
theorem chk_mem {ops:Array Oper} {i:Nat}:∀ {cs:List Nat},chk P ops cs st -> i ∈ cs -> keptV P st (ops[i]?)
 | [],_,h=>by cases h
 | c :: cs,h,hm=>by
  rcases List.mem_cons.1 hm with rfl | hm
  ·exact h.1
  ·exact chk_mem h.2 hm

theorem float_nodup {pi A C:List (Nat × List Nat)} {x:Nat × List Nat} (h:(pi.map (·.1)).Nodup) (hp:pi=A ++ x :: C):(∀ y ∈ A,y.1 ≠ x.1) /\ (∀ y ∈ C,y.1 ≠ x.1) /\ ∀ y ∈ A,∀ z ∈ C,y.1 ≠ z.1:=by
 subst hp
 rw [List.map_append,List.map_cons,List.nodup_append] at h
 obtain ⟨h1,h2,h3⟩:=h
 rw [List.nodup_cons] at h2
 refine ⟨fun y hy e=>h3 _ (List.mem_map_of_mem hy) _ (List.mem_cons_self ..) e,fun y hy e=>h2.1 ?_,fun y hy z hz e=>h3 _ (List.mem_map_of_mem hy) _ (List.mem_cons_of_mem _ (List.mem_map_of_mem hz)) e⟩
 rw [<- e]
 exact List.mem_map_of_mem hy

theorem float_adv {ops:Array Oper} {K:St -> Prop} (hok:drawOk ops N=true) {pi:List (Nat × List Nat)} (hnd:(pi.map (·.1)).Nodup) (hlin:linOk ops [] pi=true) (hssa:ssaOk ops=true) {listed:Array Bool} {c:Act} :
  ∀ (r pre:List (Nat × List Nat)),pi=pre ++ r -> (∀ x ∈ r,listed.getD x.1 true=false) -> (∀ x ∈ pre,∀ o,ops[x.1]?=some o -> readV o=false -> listed.getD x.1 true=true) ->
   ∀ {s:St} {β:Nat -> Info} {φ:Nat -> List Nat} {b:Act} {w:World},SR B N s β φ b w -> Near (fun t=>∃ x ∈ pre,listed.getD x.1 true=false /\ ∃ o,ops[x.1]?=some o /\ o.dst=some t) c b ->
   (∀ x ∈ pre,listed.getD x.1 true=false -> keptV P s (ops[x.1]?)) -> regF P ops r s K ->
   ∃ (r2 pre2:List (Nat × List Nat)),pi=pre2 ++ r2 /\ (∀ x ∈ r2,listed.getD x.1 true=false) /\ (∀ x ∈ pre2,∀ o,ops[x.1]?=some o -> readV o=false -> listed.getD x.1 true=true) /\
    (∀ x r3,r2=x :: r3 -> ∀ o,ops[x.1]?=some o -> readV o=false) /\
    ∃ s2 b2,SR B N s2 β φ b2 w /\ Near (fun t=>∃ x ∈ pre2,listed.getD x.1 true=false /\ ∃ o,ops[x.1]?=some o /\ o.dst=some t) c b2 /\ (∀ x ∈ pre2,listed.getD x.1 true=false -> keptV P s2 (ops[x.1]?)) /\ regF P ops r2 s2 K
 | [],pre,hp,hr,hpre,s,β,φ,b,w,sr,hn,hk,hq=>⟨[],pre,hp,hr,hpre,fun x r3 e=>(by cases e),s,b,sr,hn,hk,hq⟩
 | (i,cs) :: r,pre,hp,hr,hpre,s,β,φ,b,w,sr,hn,hk,hq=>by
  obtain ⟨hs1,hs2⟩:=drawOk_spec hok
  cases ho:ops[i]? with
  | none=>simp only [regF,ho] at hq
  | some o =>
   cases hrv:readV o with
   | false =>
    refine ⟨(i,cs) :: r,pre,hp,hr,hpre,fun x r3 e o' ho'=>?_,s,b,sr,hn,hk,hq⟩
    cases e
    rw [ho] at ho'
    cases ho'
    exact hrv
   | true =>
    obtain ⟨d,hd⟩:=readV_dst hrv
    have hq':match opR P s o with
     | some (q,some v,_)=>q /\ regF P ops r (s.putO o.dst (some v)) K
     | _=>False:=by simpa only [regF,ho,hrv] using hq
    split at hq'
    ·rename_i q v s' e
     obtain ⟨hqq,hq'⟩:=hq'
     obtain ⟨z,_,_,_,hz⟩:=read_sound sr hrv e hqq
     obtain ⟨n1,n2,n3⟩:=float_nodup hnd hp
     obtain ⟨o',ho',hlo⟩:=linOk_spec (hp ▸ hlin)
     rw [ho] at ho'
     cases ho'
     have hiu:listed.getD i true=false:=hr (i,cs) (List.mem_cons_self ..)
     have hdN:d < N:=(hs1 i o ho).1.1 d hd
     have hself:Operand.tmp d ∉ o.op.operands:=fun hm=>by
      obtain ⟨e',he1,he2,he3⟩:=(ssaOk_spec hssa (j:=i) (p:=o) ho).2 ho d hd hm
      rcases hlo e' he1 he2 with h | h
      ·cases h
      ·obtain ⟨y,hy,hy2⟩:=List.mem_map.1 h
       exact n1 y hy (hy2.trans he3)
     have hkd:keptV P (s.put d v) (some o):=by
      obtain ⟨s2,e5⟩:=opR_env (env:=(d,v) :: s.env) hrv (fun t ht=>find_cons_ne _ _ fun e=>hself (e ▸ ht)) e
      exact keptV_intro hd (by show find ((d,v) :: s.env) d=_;exact find_cons_self ..) e5 hqq
     rw [hd] at hq'
     refine float_adv hok hnd hlin hssa r (pre ++ [(i,cs)]) (by rw [hp];simp) (fun x hx=>hr x (List.mem_cons_of_mem _ hx)) (fun x hx o2 ho2 hr2=>?_) (sr.put hdN hz) ?_ (fun x hx hxl=>?_) hq'
     ·rcases List.mem_append.1 hx with hx | hx
      ·exact hpre x hx o2 ho2 hr2
      ·have:=List.mem_singleton.1 hx
       subst this
       rw [ho] at ho2
       cases ho2
       rw [hrv] at hr2
       cases hr2
     ·exact (hn.mono fun t ⟨x,hx,h1,h2⟩=>⟨x,List.mem_append_left _ hx,h1,h2⟩).putR d z ⟨(i,cs),by simp,hiu,o,ho,hd⟩
     ·rcases List.mem_append.1 hx with hx | hx
      ·have hkx:=hk x hx hxl
       cases hox:ops[x.1]? with
       | none=>rw [hox] at hkx;exact hkx.elim
       | some ox =>
        rw [hox] at hkx
        have hrx:readV ox=true:=by
         cases h:readV ox with
         | true=>rfl
         | false=>have:=hpre x hx ox hox h;rw [hxl] at this;cases this
        refine keptV_put hrx hkx (fun e=>?_) (fun hm=>?_)
        ·have:=uniq_of hok hox ho e (e.trans hd.symm)
         exact n1 x hx this
        ·obtain ⟨e',he1,he2,he3⟩:=(ssaOk_spec hssa (j:=i) (p:=o) hox).2 ho d hd hm
         obtain ⟨A1,A2,hA⟩:=List.append_of_mem hx
         obtain ⟨o2,ho2,hl2⟩:=linOk_spec (A:=A1) (x:=x) (C:=A2 ++ (i,cs) :: r) (by rw [hp,hA] at hlin;simpa using hlin)
         rw [hox] at ho2
         cases ho2
         rcases hl2 e' he1 he2 with h | h
         ·cases h
         ·obtain ⟨y,hy,hy2⟩:=List.mem_map.1 h
          exact n1 y (by rw [hA];exact List.mem_append_left _ hy) (hy2.trans he3)
      ·have:=List.mem_singleton.1 hx
       subst this
       rw [ho]
       exact hkd
    ·exact hq'.elim

theorem float_any {ops:Array Oper} {Q:Exit -> Act -> World -> Prop} {K:St -> Prop} (hok:drawOk ops N=true) {pi:List (Nat × List Nat)} (hall:∀ i,i < ops.size -> i ∈ pi.map (·.1)) (hnd:(pi.map (·.1)).Nodup) (hlin:linOk ops [] pi=true) {al:List Nat} (hch:chainOk ops al pi=true) (hsix:sixOk ops [] pi=true) (hssa:ssaOk ops=true)
  (hQ:∀ st' β φ a w,SR B N st' β φ a w -> K st' -> Q .normal a w):∀ (fuel:Nat) (listed:Array Bool),listed.size=ops.size -> cnt listed ops.size=fuel ->
    (∀ (j:Nat) (o:Oper),ops[j]?=some o -> listed.getD j true=true -> ∀ e ∈ o.after,Region.binds .any e=true -> listed.getD e.on true=true) ->
    (∀ i ∈ al,listed.getD i true=true) -> ∀ (r pre:List (Nat × List Nat)),pi=pre ++ r -> (∀ x ∈ r,listed.getD x.1 true=false) -> (∀ x ∈ pre,∀ o,ops[x.1]?=some o -> readV o=false -> listed.getD x.1 true=true) ->
    (∀ x r3,r=x :: r3 -> ∀ o,ops[x.1]?=some o -> readV o=false) ->
    ∀ {s:St} {β:Nat -> Info} {φ:Nat -> List Nat} {a b:Act} {w:World},SR B N s β φ b w -> Near (fun t=>∃ x ∈ pre,listed.getD x.1 true=false /\ ∃ o,ops[x.1]?=some o /\ o.dst=some t) a b ->
    (∀ x ∈ pre,listed.getD x.1 true=false -> keptV P s (ops[x.1]?)) -> regF P ops r s K -> wpAny P .any ops Q fuel listed a w:=by
 obtain ⟨hs1,hs2⟩:=drawOk_spec hok
 have hback:∀ (j:Nat) (o:Oper),ops[j]?=some o -> ∀ e ∈ o.after,Region.binds .any e=true -> e.on < j:=fun j o ho=>(hs1 j o ho).2
 have hpos:∀ x ∈ pi,∃ o,ops[x.1]?=some o:=fun x hx=>by
  obtain ⟨A,C,hA⟩:=List.append_of_mem hx
  obtain ⟨o,ho,_⟩:=linOk_spec (hA ▸ hlin)
  exact ⟨o,ho⟩
 have hready:∀ listed:Array Bool,listed.size=ops.size -> Region.ready .any ops listed=[] -> ∀ k,k < ops.size -> listed.getD k true=true:=fun listed hsz hr k=>by
  induction k using Nat.strongRecOn with
  | _ k ih =>
   intro hk
   apply Classical.byContradiction
   intro hn
   have hn':listed.getD k true=false:=by simpa using hn
   have hmem:k ∈ Region.ready .any ops listed:=mem_ready.2 ⟨hn',ops[k],Array.getElem?_eq_getElem hk,fun e he hb=>by
    have hlt:=hback k ops[k] (Array.getElem?_eq_getElem hk) e he hb
    have:=ih e.on hlt (by omega)
    rw [Array.getD_eq_getD_getElem?,Array.getElem?_eq_getElem (by omega)] at this ⊢
    exact this⟩
   rw [hr] at hmem
   cases hmem
 have hend:∀ (listed:Array Bool),(∀ k,k < ops.size -> listed.getD k true=true) -> ∀ (r pre:List (Nat × List Nat)),pi=pre ++ r -> (∀ x ∈ r,listed.getD x.1 true=false) ->
   ∀ {s:St} {β:Nat -> Info} {φ:Nat -> List Nat} {a b:Act} {w:World},SR B N s β φ b w -> Near (fun t=>∃ x ∈ pre,listed.getD x.1 true=false /\ ∃ o,ops[x.1]?=some o /\ o.dst=some t) a b -> regF P ops r s K -> Q .normal a w:=fun listed hl r pre hp hr s β φ a b w sr hn hq=>by
  have hlt:∀ x ∈ pi,listed.getD x.1 true=true:=fun x hx=>by
   obtain ⟨o,ho⟩:=hpos x hx
   exact hl _ (Array.getElem?_eq_some_iff.1 ho).1
  cases r with
  | cons x r =>
   have h1:=hr x (List.mem_cons_self ..)
   rw [hlt x (by rw [hp];simp)] at h1
   cases h1
  | nil =>
   have hab:a=b:=hn.eq fun t ⟨x,hx,h1,_⟩=>by
    rw [hlt x (by rw [hp];exact List.mem_append_left _ hx)] at h1
    cases h1
   rw [hab]
   exact hQ _ _ _ _ _ sr hq
 intro fuel
 induction fuel with
 | zero =>
  intro listed hsz hc hcl hal r pre hp hr hpre hhd s β φ a b w sr hn hk hq
  have hl:=cnt_zero hc
  refine ⟨?_,hend listed hl r pre hp hr sr hn hq⟩
  rw [List.eq_nil_iff_forall_not_mem]
  intro i hi
  obtain ⟨hun,o,ho,_⟩:=mem_ready.1 hi
  rw [hl i (Array.getElem?_eq_some_iff.1 ho).1] at hun
  cases hun
 | succ fuel ih =>
  intro listed hsz hc hcl hal r pre hp hr hpre hhd s β φ a b w sr hn hk hq
  refine ⟨fun hre=>hend listed (hready listed hsz hre) r pre hp hr sr hn hq,fun i hi=>?_⟩
  obtain ⟨hun,o,ho,hedge⟩:=mem_ready.1 hi
  have hin:i < ops.size:=(Array.getElem?_eq_some_iff.1 ho).1
  have hedge':∀ e ∈ o.after,Region.binds .any e=true -> listed.getD e.on true=true:=fun e he hb=>by
   have h1:=hedge e he hb
   have:=hback i o ho e he hb
   rw [getD_tf hsz (by omega) true false];first | exact h1 | (rw [getD_tf hsz (by omega) false true];exact h1)
  have hpl:=(ssaOk_spec hssa (j:=i) (p:=o) ho).1
  unfold plainV at hpl
  simp only [Bool.and_eq_true] at hpl
  have hsel:∀ cs b,o.op ≠ .select cs b:=fun cs b e=>by
   have:=hpl.2
   rw [e] at this
   cases this
  have hwant:Region.wanted o (yielded ops a.tmps)=true:=by
   unfold Region.wanted
   rw [Option.isNone_iff_eq_none.1 hpl.1]
  have hsz':(listed.setIfInBounds i true).size=ops.size:=by simpa using hsz
  have hcl':=closed_set hsz ho hin hedge' hcl
  have hc':cnt (listed.setIfInBounds i true) ops.size=fuel:=by have:=cnt_set listed i hun ops.size hin;omega
  have hset:(listed.setIfInBounds i true).getD i true=true:=by
   rw [Array.getD_eq_getD_getElem?,Array.getElem?_setIfInBounds_self]
   simp [hsz,hin]
  have hne:∀ k,k ≠ i -> (listed.setIfInBounds i true).getD k true=listed.getD k true:=fun k hk=>getD_set_ne true (Ne.symm hk)
  have hal':∀ k ∈ al,(listed.setIfInBounds i true).getD k true=true:=fun k hk=>by
   by_cases e:k=i
   ·rw [e];exact hset
   ·rw [hne _ e];exact hal k hk
  have hev:∀ y ∈ o.op.operands,a.eval y=b.eval y:=fun y hy=>hn.eval fun t ht=>fun ⟨x,hx,h1,o2,ho2,hd2⟩=>by
   subst ht
   obtain ⟨e,he1,he2,he3⟩:=(ssaOk_spec hssa (j:=x.1) (p:=o2) ho).2 ho2 t hd2 hy
   have:=hedge' e he1 he2
   rw [he3,h1] at this
   cases this
  unfold wpOp
  rw [ho]
  simp only [hwant,if_true]
  left
  obtain ⟨x,hx,hxi⟩:=List.mem_map.1 (hall i hin)
  rw [hp] at hx
  rcases List.mem_append.1 hx with hx | hx
  ·-- a read that was put off
   have hkx:=hk x hx (by rw [hxi];exact hun)
   rw [hxi,ho] at hkx
   obtain ⟨d,v,q,s',hd,hv,he,hqq⟩:=keptV_inv hkx
   have hrv:readV o=true:=by
    cases h:readV o with
    | true=>rfl
    | false =>
     have:=hpre x hx o (by rw [hxi];exact ho) h
     rw [hxi,hun] at this
     cases this
   obtain ⟨z,w1,hrun,hfr,hz⟩:=read_sound sr hrv he hqq
   obtain ⟨le1,sr1⟩:=sr.calm hfr
   have hz:=AVRel.mono le1 hz
   have hdN:d < N:=(hs1 i o ho).1.1 d hd
   unfold Oper.wp
   rw [execOp_congr o hsel hev,hrun,Oper.upon_value,hd]
   have sr2:SR B N s β φ (b.put (some d) z) w1:=by
    have h1:=(sr1.put hdN hz).forget s.env (fun t u hu=>by
     show find ((d,v) :: s.env) t=some u
     by_cases e:t=d
     ·subst e
      rw [find_cons_self,<- hu,hv]
     ·rw [find_cons_ne _ _ e];exact hu)
    exact h1
   refine ih (listed.setIfInBounds i true) hsz' hc' hcl' hal' r pre hp (fun y hy=>?_) (fun y hy o2 ho2 hr2=>?_) hhd sr2 (hn.put1 d z fun t ⟨y,hy,h1,o2,ho2,hd2⟩=>?_) (fun y hy hyl=>?_) hq
   ·by_cases e:y.1=i
    ·exfalso
     obtain ⟨A,C,hA⟩:=List.append_of_mem hx
     have:=(float_nodup hnd (A:=A) (x:=x) (C:=C ++ r) (by rw [hp,hA];simp)).2.1 y (List.mem_append_right _ hy)
     exact this (e.trans hxi.symm)
    ·rw [hne _ e];exact hr y hy
   ·by_cases e:y.1=i
    ·rw [e];exact hset
    ·rw [hne _ e];exact hpre y hy o2 ho2 hr2
   ·by_cases e:y.1=i
    ·rw [e,ho] at ho2
     cases ho2
     rw [hd] at hd2
     cases hd2
     exact .inl rfl
    ·exact .inr ⟨y,hy,by rw [hne _ e];exact h1,o2,ho2,hd2⟩
   ·by_cases e:y.1=i
    ·rw [e,hset] at hyl
     cases hyl
    ·rw [hne _ e] at hyl
     exact hk y hy hyl
  ·-- what changes memory: it is the next
   cases r with
   | nil=>cases hx
   | cons y r =>
    obtain ⟨oy,hoy⟩:=hpos y (by rw [hp];simp)
    have hry:=hhd y r rfl oy hoy
    have hyi:y.1=i:=by
     rcases List.mem_cons.1 hx with h | h
     ·rw [<- h];exact hxi
     ·exfalso
      obtain ⟨e,he1,he2,he3⟩:=chainOk_spec (hp ▸ hch) oy hoy hry x h (fun hxa=>by have:=hal _ hxa;rw [hxi,hun] at this;cases this) o (by rw [hxi];exact ho)
      have hl:=hedge' e he1 he2
      rcases he3 with he3 | he3
      ·rw [he3,hr y (List.mem_cons_self ..)] at hl
       cases hl
      ·obtain ⟨z,hz,hz2⟩:=List.mem_map.1 he3.1
       rw [<- hz2,hr z (List.mem_cons_of_mem _ hz)] at hl
       cases hl
    obtain ⟨i',cs⟩:=y
    have hyi:i'=i:=hyi
    subst hyi
    rw [ho] at hoy
    cases hoy
    have hq':opQ P s o fun v s=>chk P ops cs (s.putO o.dst v) /\ regF P ops r (s.putO o.dst v) K:=by simpa only [regF,ho,hry] using hq
    obtain ⟨n1,n2,n3⟩:=float_nodup hnd hp
    refine wp_near hn hev hsel (opQ_wp sr hq' fun β' φ' w' st' v z le sr' henv hv hvn hK c hnc=>?_)
    have sr2:=sr'.putO (d:=o.dst) (r:=v) (x:=z) (fun t ht=>(hs1 i' o ho).1.1 t ht) (fun u hu=>hv u hu)
    have hp':pi=(pre ++ [(i',cs)]) ++ r:=by rw [hp];simp
    obtain ⟨r2,pre2,h1,h2,h3,h4,s2,b2,h5,h6,h7,h8⟩:=float_adv (P:=P) (listed:=listed.setIfInBounds i' true) (c:=c) hok hnd hlin hssa r (pre ++ [(i',cs)]) hp' (fun x hx=>by
      rw [hne _ (n2 x hx)]
      exact hr x (List.mem_cons_of_mem _ hx)) (fun x hx o2 ho2 hr2=>by
      rcases List.mem_append.1 hx with hx | hx
      ·rw [hne _ (n1 x hx)];exact hpre x hx o2 ho2 hr2
      ·rw [List.mem_singleton.1 hx];exact hset) sr2 (hnc.mono fun t ⟨x,hx,e1,e2⟩=>⟨x,List.mem_append_left _ hx,by rw [hne _ (n1 x hx)];exact e1,e2⟩) (fun x hx hxl=>by
      rcases List.mem_append.1 hx with hx | hx
      ·rw [hne _ (n1 x hx)] at hxl
       obtain ⟨ox,hox⟩:=hpos x (by rw [hp];exact List.mem_append_left _ hx)
       have hrx:readV ox=true:=by
        cases h:readV ox with
        | true=>rfl
        | false=>have:=hpre x hx ox hox h;rw [hxl] at this;cases this
       rcases sixOk_spec (hp ▸ hsix) o ho hry x.1 (.inr (List.mem_map_of_mem hx)) ox hox hrx with h | h
       ·exact chk_mem hK.1 h
       ·have:=ancB_listed hcl _ _ _ h (fun o' ho'=>by
         rw [ho] at ho'
         cases ho'
         exact hedge')
        rw [hxl] at this
        cases this
      ·rw [List.mem_singleton.1 hx,hset] at hxl
       cases hxl) hK.2
    exact ih (listed.setIfInBounds i' true) hsz' hc' hcl' hal' r2 pre2 h1 h2 h3 h4 h5 h6 h7 h8

end
end Go.Abs
