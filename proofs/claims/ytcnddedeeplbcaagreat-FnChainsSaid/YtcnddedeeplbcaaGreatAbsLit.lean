/- A region whose order is open, in which slice literals stand between calls that bring objects and what may come late. Own work. -/
import Derived.Test.YtcnddedeeplbcaaGreatAbsEff
namespace Go.Abs
set_option linter.unusedVariables false
set_option linter.unusedSimpArgs false

def isLoad:Op -> Bool
 | .load ..=>true
 | _=>false
def isApp:Op -> Bool
 | .call { callee:=.builtin .append,.. }=>true
 | _=>false
def hardL:List Oper -> Nat -> Bool
 | [],_=>false
 | o :: r,0=>hardL r (bif isLoad o.op then 1 else 0)
 | o :: r,1=>hardL r (bif callV o.op then 2 else 1)
 | o :: r,2=>hardL r (bif litV o.op then 3 else 2)
 | o :: r,3=>bif isApp o.op then true else hardL r 2
 | _ :: _,_ + 4=>false

def chained (ops:Array Oper) (i:Nat):Nat -> Nat -> Bool
 | 0,_=>false
 | f + 1,j=>match ops[j]? with
  | some o=>o.after.any fun e=>Region.binds .any e && (e.on == i || (decide (i < e.on) && chained ops i f e.on))
  | none=>false
def bringOk (ops:Array Oper):Bool :=
 ops.toList.zipIdx.all fun (o,j)=>!bringV o.op || ops.toList.zipIdx.all fun (p,i)=>!(decide (i < j) && bringV p.op) || chained ops i ops.size j

theorem chained_spec {ops:Array Oper} {i:Nat} {listed:Array Bool} (hcl:∀ (j:Nat) (o:Oper),ops[j]?=some o -> listed.getD j true=true -> ∀ e ∈ o.after,Region.binds .any e=true -> listed.getD e.on true=true) :
  ∀ (f j:Nat) (o:Oper),chained ops i f j=true -> ops[j]?=some o -> (∀ e ∈ o.after,Region.binds .any e=true -> listed.getD e.on true=true) -> listed.getD i true=true
 | 0,_,_,h,_,_=>by cases h
 | f + 1,j,o,h,ho,hed=>by
  unfold chained at h
  rw [ho] at h
  simp only at h
  obtain ⟨m,hm,h1⟩:=Array.any_eq_true.1 h
  simp only [Bool.and_eq_true,Bool.or_eq_true] at h1
  obtain ⟨hb,h1⟩:=h1
  have hl:=hed _ (Array.getElem_mem hm) hb
  rcases h1 with h1 | ⟨_,h1⟩
  ·have e:(o.after[m]).on=i:=by simpa using h1
   rw [<- e];exact hl
  ·cases f with
   | zero=>cases h1
   | succ f =>
    have h1':=h1
    unfold chained at h1'
    split at h1'
    ·rename_i o' ho'
     exact chained_spec hcl (f + 1) _ o' h1 ho' (hcl _ o' ho' hl)
    ·cases h1'

theorem bringOk_spec {ops:Array Oper} (h:bringOk ops=true) (n:Nat):BringOk ops n:=fun i j p o hj hp ho hij hbp hbo listed hcl hed=>by
 have mem:∀ (j:Nat) (o:Oper),ops[j]?=some o -> (o,j) ∈ ops.toList.zipIdx:=fun j o hj=>by
  rw [List.mem_zipIdx_iff_getElem?]
  simpa using hj
 have h1:=List.all_eq_true.1 h _ (mem j o ho)
 simp only [hbo,Bool.not_true,Bool.false_or] at h1
 have h2:=List.all_eq_true.1 h1 _ (mem i p hp)
 simp only [hbp,hij,decide_true,Bool.and_self,Bool.not_true,Bool.false_or] at h2
 exact chained_spec hcl _ j o h2 ho hed

structure LitAt where
 o:Nat
 d:Nat
 len:Nat
 zs:List D

def litQ (P:Program) (st:St) (o:Oper) (K:LitAt -> AV -> St -> Prop):Prop :=
 match o.op with
 | .buildSlice t len parts=>match te P t,evP st parts.toList with
  | some (e,s,_),some (q,ps)=>match tz P e with
   | some zs=>match fillL (fun i=>some (i * s,s)) ((List.replicate len (zs.map zleaf)).flatten) ps with
    | some ls=>(q /\ zs.length=s /\ len * s <= 16777216) /\ K ⟨st.next,o.dst.getD 0,len,zs⟩ (.one (.part st.next 0 len)) (st.addObj (.box ls))
    | none=>False
   | none=>False
  | _,_=>False
 | _=>False

def unlitQ:List LitAt -> St -> (St -> Prop) -> Prop
 | [],st,K=>K st
 | x :: r,st,K=>match st.obj x.o with
  | .box ls=>match sepLeaves st (List.replicate x.len x.zs).flatten ls with
   | some (q,ds,ks)=>if ls.length=x.len * x.zs.length then q /\ (ks.Nodup /\ x.o ∉ ks) /\ find st.env x.d=some (.one (.part x.o 0 x.len)) /\
     unlitQ r (((killAll st (x.o :: ks)).addObj (.vec x.zs.length true (chunks x.zs.length x.len ds))).put x.d (.one (.own st.next))) K else False
   | none=>False
  | _=>False

def drawL (P:Program) (ops:Array Oper):List Oper -> St -> List LitAt -> (St -> Prop) -> Prop
 | [],st,lits,Q=>unlitQ lits st Q
 | o :: r,st,lits,Q =>
  if litV o.op && o.guard.isNone then o.dst.isSome=true /\ litQ P st o fun x v st'=>drawL P ops r (st'.putO o.dst (some v)) (x :: lits) Q
  else if effOp o.op then seqOk ops (ops.size - (r.length + 1))=true /\ unlitQ lits st fun st=>regQ P ops (o :: r) st Q
  else if callV o.op && o.guard.isNone then o.dst.isSome=true /\ (condCall P st o true (fun v=>drawL P ops r (st.putO o.dst (some v)) lits Q) \/ effQ P st o (fun v st'=>drawL P ops r (st'.putO o.dst (some v)) lits Q))
  else o.dst.isSome=true /\ stepD P ops st o fun v=>drawL P ops r (st.putO o.dst (some v)) lits Q

def isMake:Op -> Bool
 | .makeSlice _ (.const _) (.const _)=>true
 | _=>false
def placeV (o:Op):Bool:=isAlloc o || isMake o
def hasMake:List Oper -> Bool
 | []=>false
 | o :: r=>bif isMake o.op then true else hasMake r
def twoMake:List Oper -> Nat -> Bool
 | [],_=>false
 | o :: r,0=>twoMake r (bif isMake o.op then 2 else bif bringV o.op then 1 else 0)
 | o :: r,1=>bif isMake o.op then true else twoMake r 1
 | o :: r,2=>bif isMake o.op then true else bif bringV o.op then true else twoMake r 2
 | _ :: _,_ + 3=>false
def placeObj (P:Program):Op -> AObj
 | .alloc t=>resvObj P t
 | .makeSlice t (.const (.int _ l)) _=>match te P t with
  | some (e,s,_)=>match tz P e with
   | some zs=>.vec s true (List.replicate l.toNat zs)
   | none=>.dead
  | none=>.dead
 | _=>.dead
def resvM (P:Program):List Oper -> St -> St
 | [],st=>st
 | o :: r,st=>match placeV o.op with
  | true=>resvM P r (st.addObj (placeObj P o.op))
  | false=>match effOp o.op && !litV o.op with
   | true=>st
   | false=>resvM P r st
def resvMIds:List Oper -> Nat -> List Nat
 | [],_=>[]
 | o :: r,n=>match placeV o.op with
  | true=>n :: resvMIds r (n + 1)
  | false=>match effOp o.op && !litV o.op with
   | true=>[]
   | false=>resvMIds r n
def placeQ (P:Program) (st:St) (o:Oper) (m:Nat) (K:St -> Prop):Prop :=
 match o.op with
 | .alloc t=>allocQ P st o m K
 | .makeSlice t (.const (.int _ l)) (.const (.int _ c))=>match te P t with
  | some (e,s,y)=>match tz P e with
   | some zs=>(o.guard.isNone=true /\ (l=c /\ 0 <= l /\ (y:Int) * l <= 281474976710656 /\ l <= 9223372036854775807 /\ zs.length=s)) /\ st.obj m=.vec s true (List.replicate l.toNat zs) /\ K (st.putO o.dst (some (.one (.own m))))
   | none=>False
  | none=>False
 | _=>False
def vlitQ (P:Program) (st:St) (o:Oper) (K1:AV -> St -> Prop) (K:LitAt -> AV -> St -> Prop):Prop :=
 match o.op with
 | .buildSlice t len parts=>match te P t,evP st parts.toList with
  | some (e,s,_),some (q,ps)=>match tz P e with
   | some zs=>match fillL (fun i=>some (i * s,s)) ((List.replicate len (zs.map zleaf)).flatten) ps with
    | some ls=>match flatDs ls with
     | some ds=>((q /\ zs.length=s /\ len * s <= 16777216) /\ ds.length=len * s) /\ K1 (.one (.own st.next)) (st.addObj (.vec s true (chunks s len ds)))
     | none=>(q /\ zs.length=s /\ len * s <= 16777216) /\ K ⟨st.next,o.dst.getD 0,len,zs⟩ (.one (.part st.next 0 len)) (st.addObj (.box ls))
    | none=>False
   | none=>False
  | _,_=>False
 | _=>False
def drawM (P:Program) (ops:Array Oper):List Oper -> St -> List LitAt -> List Nat -> (St -> Prop) -> Prop
 | [],st,lits,ms,Q=>ms=[] /\ unlitQ lits st Q
 | o :: r,st,lits,ms,Q =>
  if placeV o.op && !ms.isEmpty then o.dst.isSome=true /\ placeQ P st o (ms.headD 0) fun st'=>drawM P ops r st' lits ms.tail Q
  else if litV o.op && o.guard.isNone then o.dst.isSome=true /\ vlitQ P st o (fun v st'=>drawM P ops r (st'.putO o.dst (some v)) lits ms Q) fun x v st'=>drawM P ops r (st'.putO o.dst (some v)) (x :: lits) ms Q
  else if effOp o.op then seqOk ops (ops.size - (r.length + 1))=true /\ ms=[] /\ unlitQ lits st fun st=>regQ P ops (o :: r) st Q
  else if callV o.op && o.guard.isNone then o.dst.isSome=true /\ (condCall P st o true (fun v=>drawM P ops r (st.putO o.dst (some v)) lits ms Q) \/ effQ P st o (fun v st'=>drawM P ops r (st'.putO o.dst (some v)) lits ms Q))
  else o.dst.isSome=true /\ stepD P ops st o fun v=>drawM P ops r (st.putO o.dst (some v)) lits ms Q

def drawY (P:Program) (ops:Array Oper) (st:St) (Q:St -> Prop):Prop :=
 if hardL ops.toList 0 then bringOk ops=true /\ drawL P ops ops.toList st [] Q else drawX P ops st Q

section
variable {P:Program} {B:Base} {N:Nat} {st st':St} {β:Nat -> Info} {φ:Nat -> List Nat} {a:Act} {w w':World}

theorem litQ_ex {o:Oper} {K:LitAt -> AV -> St -> Prop} (h:litQ P st o K):∃ x v os,litX P st o v os /\ K x v (st.after [] os):=by
 unfold litQ at h
 split at h
 ·rename_i t len parts eo
  split at h
  ·rename_i e s y q ps e1 e2
   split at h
   ·rename_i zs e3
    split at h
    ·rename_i ls e4
     obtain ⟨h1,h2⟩:=h
     refine ⟨_,_,[.box ls],⟨t,len,parts,_,ls,eo,?_,h1,rfl,rfl⟩,h2⟩
     unfold litL
     simp only [e1,e2,e3,e4]
    ·exact h.elim
   ·exact h.elim
  ·exact h.elim
 ·exact h.elim

theorem step0_unlit {x:LitAt} {ls:List Leaf} {q:Prop} {ds:List D} {ks:List Nat} (eo:st.obj x.o=.box ls) (el:sepLeaves st (List.replicate x.len x.zs).flatten ls=some (q,ds,ks)) (hll:ls.length=x.len * x.zs.length) (hq:q) (hnd:ks.Nodup) (hok:x.o ∉ ks)
  (hd:find st.env x.d=some (.one (.part x.o 0 x.len))):Step0 st (((killAll st (x.o :: ks)).addObj (.vec x.zs.length true (chunks x.zs.length x.len ds))).put x.d (.one (.own st.next))):=fun B N β φ a w h=>by
 obtain ⟨hN,hon,hp⟩:=h.env x.d _ hd
 rw [show (st.ctx w β φ).ob x.o=_ from eo] at hp
 obtain ⟨hcap,_,b,hb,hv⟩:=hp
 have ho:=h.objs x.o
 unfold ObjRel at ho
 rw [show (st.ctx w β φ).ob x.o=_ from eo] at ho
 obtain ⟨b',T,vs,hb',hφ,hheap,hL⟩:=ho
 have hbb:b'=b:=by
  have h1:(β x.o).base=some ⟨b',0,none⟩:=hb'
  have h2:(β x.o).base=some ⟨b,0,none⟩:=hb
  rw [h1] at h2
  cases h2;rfl
 subst hbb
 have hheap:w.heap[b']?=some (.cells vs T (0,0)):=hheap
 obtain ⟨hdl,S,hr,hSn,hSm⟩:=sepLeaves_sound h el hq hnd hL
 have hr:OwnL w ds vs.toList S:=hr
 have hvl:vs.size=x.len * x.zs.length:=by have:=hL.1;rw [hll] at this;simpa using this
 have hdl':ds.length=x.len * x.zs.length:=by rw [hdl,hll]
 have hlt:=hr.rep.lt
 have hbS:b' ∉ S:=fun hm=>by
  obtain ⟨k,hk,hx⟩:=hSm b' hm
  exact h.disj x.o k (fun e=>hok (e ▸ hk)) b' (by rw [hφ];simp) hx
 obtain ⟨β',φ',le,sr,hp⟩:=h.newVec (ks:=x.o :: ks) (w':=w) (fun o ho=>by
   rcases List.mem_cons.1 ho with rfl | ho
   ·exact hon
   ·exact sepKs_lt h el o ho) (Frm.refl w _) (sz:=x.zs.length) (cap:=x.len) (b:=b') (sep:=true)
  (rows:=chunks x.zs.length x.len ds) (S:=S) (E:=S) (T:=T) (vs:=vs) (chunks_mem _ x.len ds hdl') (by rw [chunks_length];omega) hheap ⟨hvl,[],by rw [chunks_length,List.drop_of_length_le (by rw [Array.length_toList,hvl];omega)];exact .nil⟩
  (by rw [chunks_length,chunks_flatten _ x.len ds hdl',List.take_of_length_le (by rw [Array.length_toList,hvl];omega)];exact hr.rep)
  (fun y hy=>by
    rcases List.mem_cons.1 hy with rfl | hy
    ·exact ⟨lt_of_heap hheap,.inr ⟨x.o,by simp,by rw [hφ];simp⟩⟩
    ·obtain ⟨k,hk,hx⟩:=hSm y hy
     exact ⟨hlt y hy,.inr ⟨k,List.mem_cons_of_mem _ hk,hx⟩⟩)
  (List.nodup_cons.2 ⟨hbS,hSn⟩) (by
    simp only [if_true]
    refine ⟨hSn,fun _ h=>h,?_⟩
    rw [chunks_length,chunks_flatten _ x.len ds hdl',List.take_of_length_le (by rw [Array.length_toList,hvl];omega)];exact hr)
 rw [chunks_length] at hp
 refine ⟨β',φ',sr.size,sr.defers,fun t' v hv'=>?_,sr.dead,sr.objs,sr.nodup,sr.disj,sr.fp,sr.frame,sr.init⟩
 by_cases e:t'=x.d
 ·subst e
  rw [show find (((killAll st (x.o :: ks)).addObj (.vec x.zs.length true (chunks x.zs.length x.len ds))).put x.d (.one (.own st.next))).env x.d=_ from find_cons_self ..] at hv'
  cases hv'
  exact ⟨hN,by rw [hv];exact hp⟩
 ·rw [show find (((killAll st (x.o :: ks)).addObj (.vec x.zs.length true (chunks x.zs.length x.len ds))).put x.d (.one (.own st.next))).env t'=_ from find_cons_ne _ _ e] at hv'
  exact sr.env t' v hv'

theorem unlitQ_ex:∀ (lits:List LitAt) (st:St) {K:St -> Prop},unlitQ lits st K -> ∃ st2,Step0 st st2 /\ K st2
 | [],st,K,h=>⟨st,step0_refl,h⟩
 | x :: r,st,K,h=>by
  unfold unlitQ at h
  split at h
  ·rename_i ls eo
   split at h
   ·rename_i q ds ks el
    split at h
    ·rename_i hll
     obtain ⟨hq,⟨hnd,hok⟩,hd,h⟩:=h
     obtain ⟨st2,h1,h2⟩:=unlitQ_ex r _ h
     refine ⟨st2,fun B N β φ a w sr=>?_,h2⟩
     obtain ⟨β',φ',sr'⟩:=step0_unlit eo el hll hq hnd hok hd B N β φ a w sr
     exact h1 _ _ _ _ _ _ sr'
    ·exact h.elim
   ·exact h.elim
  ·exact h.elim

theorem drawL_ex {ops:Array Oper} {K:St -> Prop}:∀ (l:List Oper) (st:St) (lits:List LitAt),drawL P ops l st lits K -> DrawnEff true P ops l st [] K
 | [],st,lits,h=>by
  obtain ⟨st2,h1,h2⟩:=unlitQ_ex lits st h
  exact .nil (by simp) h1 h2
 | o :: l,st,lits,h=>by
  have dst:o.dst.isSome=true -> fstOk true o:=fun h=>by
   show ∃ d,_
   exact Option.isSome_iff_exists.1 h
  have pure:∀ {K':AV -> Prop},o.dst.isSome=true -> stepD P ops st o K' -> (∀ v,K' v -> drawL P ops l (st.putO o.dst (some v)) lits K) -> DrawnEff true P ops (o :: l) st [] K:=fun {K'} hd hs hk=>by
   obtain ⟨v,h1,h2⟩:=stepD_ex hs
   exact .cons (al:=none) (dst hd) (x:=[]) (.inl ⟨rfl,rfl,h1⟩) (by rw [after_nil];exact drawL_ex l _ lits (hk v h2))
  simp only [drawL] at h
  split at h
  ·rename_i hc
   simp only [Bool.and_eq_true] at hc
   obtain ⟨hd,h⟩:=h
   obtain ⟨x,v,os,h1,h2⟩:=litQ_ex h
   exact .cons (al:=none) (dst hd) (.inr (.inl ⟨rfl,by unfold bringV;rw [hc.1,Bool.or_true],by simpa using hc.2,.inr (.inl h1)⟩)) (drawL_ex l _ _ h2)
  ·split at h
   ·obtain ⟨h1,h2⟩:=h
    obtain ⟨st2,h3,h4⟩:=unlitQ_ex lits st h2
    exact .nil (fun _=>h1) h3 h4
   ·split at h
    ·rename_i hc
     simp only [Bool.and_eq_true] at hc
     obtain ⟨hd,h⟩:=h
     rcases h with h | h
     ·exact pure hd (condCall_stepD hc.1 hc.2 h) fun v hv=>hv
     ·obtain ⟨v,x,h1,h2⟩:=effQ_ex h
      exact .cons (al:=none) (dst hd) (.inr (.inl ⟨rfl,by unfold bringV;rw [hc.1];rfl,by simpa using hc.2,.inl h1⟩)) (drawL_ex l _ lits h2)
    ·exact pure h.1 h.2 fun v hv=>hv

theorem drawY_wp {ops:Array Oper} {id:Nat} {Q:Exit -> Act -> World -> Prop} {K:St -> Prop} (hm:P.follows .mixedOrders=true) (hok:drawOk ops N=true)
  (hQ:∀ st' β φ a w,SR B N st' β φ a w -> K st' -> Q .normal a w) (h:SR B N st β φ a w) (hq:drawY P ops st K):RegW P id ops true Q a w:=by
 unfold drawY at hq
 split at hq
 ·obtain ⟨hb,hd⟩:=hq
  exact drawE_wp hm hok (fun l' l2 _ _=>bringOk_spec hb _) hQ h rfl rfl rfl (fun _ _=>rfl) h.dead (drawL_ex _ _ _ hd)
 ·exact draw_wp hm hok hQ h hq

theorem vlitQ_ex {o:Oper} {K1:AV -> St -> Prop} {K:LitAt -> AV -> St -> Prop} (h:vlitQ P st o K1 K):(∃ x v os,litX P st o v os /\ K x v (st.after [] os)) \/ (∃ v os,vlitX P st o v os /\ K1 v (st.after [] os)):=by
 unfold vlitQ at h
 split at h
 ·rename_i t len parts eo
  split at h
  ·rename_i e s y q ps e1 e2
   split at h
   ·rename_i zs e3
    split at h
    ·rename_i ls e4
     have el:litL P st t len parts=some (q /\ zs.length=s /\ len * s <= 16777216,ls):=by
      unfold litL
      simp only [e1,e2,e3,e4]
     split at h
     ·rename_i ds e5
      obtain ⟨⟨h1,h3⟩,h2⟩:=h
      exact .inr ⟨_,[.vec s true (chunks s len ds)],⟨t,len,parts,_,ls,ds,e,s,y,zs,eo,el,h1,e5,h3,e1,e3,rfl,rfl⟩,h2⟩
     ·obtain ⟨h1,h2⟩:=h
      exact .inl ⟨_,_,[.box ls],⟨t,len,parts,_,ls,eo,el,h1,rfl,rfl⟩,h2⟩
    ·exact h.elim
   ·exact h.elim
  ·exact h.elim
 ·exact h.elim

theorem resvM_spec:∀ (l:List Oper) (st:St),(resvM P l st).env=st.env /\ (resvM P l st).next=st.next + (resvMIds l st.next).length /\ resvMIds l st.next=List.range' st.next (resvMIds l st.next).length /\ (∀ k,k < st.next -> (resvM P l st).obj k=st.obj k) /\
  ((∀ k,st.next <= k -> st.obj k=.dead) -> ∀ k,(resvM P l st).next <= k -> (resvM P l st).obj k=.dead)
 | [],st=>⟨rfl,rfl,rfl,fun _ _=>rfl,fun h=>h⟩
 | o :: r,st=>by
  cases hp:placeV o.op with
  | true =>
   obtain ⟨h1,h2,h3,h4,h5⟩:=resvM_spec r (st.addObj (placeObj P o.op))
   have e1:resvM P (o :: r) st=resvM P r (st.addObj (placeObj P o.op)):=by simp only [resvM,hp]
   have e2:resvMIds (o :: r) st.next=st.next :: resvMIds r (st.next + 1):=by simp only [resvMIds,hp]
   have hn:(st.addObj (placeObj P o.op)).next=st.next + 1:=rfl
   rw [hn] at h2 h3
   rw [e1,e2]
   refine ⟨h1,by rw [h2,List.length_cons];omega,by rw [List.length_cons,List.range'_succ,<- h3],fun k hk=>?_,fun hd=>h5 fun k hk=>?_⟩
   ·rw [h4 k (by rw [hn];omega),St.obj_addObj_ne _ _ (by omega)]
   ·rw [hn] at hk
    rw [St.obj_addObj_ne _ _ (by omega)]
    exact hd k (by omega)
  | false =>
   cases hc:effOp o.op && !litV o.op with
   | true =>
    have e1:resvM P (o :: r) st=st:=by simp only [resvM,hp,hc]
    have e2:resvMIds (o :: r) st.next=[]:=by simp only [resvMIds,hp,hc]
    rw [e1,e2]
    exact ⟨rfl,rfl,rfl,fun _ _=>rfl,fun h=>h⟩
   | false =>
    have e1:resvM P (o :: r) st=resvM P r st:=by simp only [resvM,hp,hc]
    have e2:resvMIds (o :: r) st.next=resvMIds r st.next:=by simp only [resvMIds,hp,hc]
    rw [e1,e2]
    exact resvM_spec r st

theorem drawM_ex {ops:Array Oper} {K:St -> Prop}:∀ (l:List Oper) (st:St) (lits:List LitAt) (ms:List Nat),drawM P ops l st lits ms K -> DrawnEff true P ops l st ms K
 | [],st,lits,ms,h=>by
  obtain ⟨rfl,h⟩:=h
  obtain ⟨st2,h1,h2⟩:=unlitQ_ex lits st h
  exact .nil (by simp) h1 h2
 | o :: l,st,lits,ms,h=>by
  have dst:o.dst.isSome=true -> fstOk true o:=fun h=>by
   show ∃ d,_
   exact Option.isSome_iff_exists.1 h
  have pure:∀ {K':AV -> Prop},o.dst.isSome=true -> stepD P ops st o K' -> (∀ v,K' v -> drawM P ops l (st.putO o.dst (some v)) lits ms K) -> DrawnEff true P ops (o :: l) st ms K:=fun {K'} hd hs hk=>by
   obtain ⟨v,h1,h2⟩:=stepD_ex hs
   exact .cons (al:=none) (dst hd) (x:=[]) (.inl ⟨rfl,rfl,h1⟩) (by rw [after_nil];exact drawM_ex l _ lits ms (hk v h2))
  simp only [drawM] at h
  split at h
  ·rename_i hc
   obtain ⟨hd,h⟩:=h
   cases ms with
   | nil=>simp at hc
   | cons m ms =>
    simp only [List.headD_cons,List.tail_cons] at h
    unfold placeQ at h
    split at h
    ·rename_i t eo
     unfold allocQ at h
     rw [eo] at h
     simp only at h
     split at h
     ·rename_i ds hz
      obtain ⟨hg,hb,hk⟩:=h
      refine DrawnEff.cons (al:=some m) (x:=[]) (v:=.one (.ptr (.own m 0 0))) (dst hd) (.inr (.inr ⟨m,_,rfl,rfl,by rw [eo];rfl,by simpa using hg,place_alloc eo hz m,hb⟩)) ?_
      rw [after_nil]
      exact drawM_ex l _ lits ms hk
     ·exact h.elim
    ·rename_i t k' l' k c eo
     split at h
     ·rename_i e s y ht
      split at h
      ·rename_i zs hz
       obtain ⟨⟨hg,hlc,h0,hby,h63,hzl⟩,hb,hk⟩:=h
       subst hlc
       refine DrawnEff.cons (al:=some m) (x:=[]) (v:=.one (.own m)) (dst hd) (.inr (.inr ⟨m,_,rfl,rfl,by rw [eo];rfl,by simpa using hg,place_make eo ht hz h0 hby h63 hzl m,hb⟩)) ?_
       rw [after_nil]
       exact drawM_ex l _ lits ms hk
      ·exact h.elim
     ·exact h.elim
    ·exact h.elim
  ·split at h
   ·rename_i hc
    simp only [Bool.and_eq_true] at hc
    obtain ⟨hd,h⟩:=h
    rcases vlitQ_ex h with ⟨x,v,os,h1,h2⟩ | ⟨v,os,h1,h2⟩
    ·exact .cons (al:=none) (dst hd) (.inr (.inl ⟨rfl,by unfold bringV;rw [hc.1,Bool.or_true],by simpa using hc.2,.inr (.inl h1)⟩)) (drawM_ex l _ _ ms h2)
    ·exact .cons (al:=none) (dst hd) (.inr (.inl ⟨rfl,by unfold bringV;rw [hc.1,Bool.or_true],by simpa using hc.2,.inr (.inr h1)⟩)) (drawM_ex l _ _ ms h2)
   ·split at h
    ·obtain ⟨h1,rfl,h2⟩:=h
     obtain ⟨st2,h3,h4⟩:=unlitQ_ex lits st h2
     exact .nil (fun _=>h1) h3 h4
    ·split at h
     ·rename_i hc
      simp only [Bool.and_eq_true] at hc
      obtain ⟨hd,h⟩:=h
      rcases h with h | h
      ·exact pure hd (condCall_stepD hc.1 hc.2 h) fun v hv=>hv
      ·obtain ⟨v,x,h1,h2⟩:=effQ_ex h
       exact .cons (al:=none) (dst hd) (.inr (.inl ⟨rfl,by unfold bringV;rw [hc.1];rfl,by simpa using hc.2,.inl h1⟩)) (drawM_ex l _ lits ms h2)
     ·exact pure h.1 h.2 fun v hv=>hv

theorem drawM_wp {ops:Array Oper} {id:Nat} {Q:Exit -> Act -> World -> Prop} {K:St -> Prop} (hm:P.follows .mixedOrders=true) (hok:drawOk ops N=true) (hb:bringOk ops=true)
  (hQ:∀ st' β φ a w,SR B N st' β φ a w -> K st' -> Q .normal a w) (h:SR B N st β φ a w) (hq:drawM P ops ops.toList (resvM P ops.toList st) [] (resvMIds ops.toList st.next) K):RegW P id ops true Q a w:=by
 obtain ⟨h1,h2,h3,h4,h5⟩:=resvM_spec (P:=P) ops.toList st
 exact drawE_wp hm hok (fun l' l2 _ _=>bringOk_spec hb _) hQ h h1 h2 h3 h4 (h5 h.dead) (drawM_ex _ _ _ _ hq)
end
end Go.Abs
