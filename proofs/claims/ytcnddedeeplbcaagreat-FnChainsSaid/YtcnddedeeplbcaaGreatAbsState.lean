/- How abstract states change: one lemma for every change of objects and memory; operands; frames. -/
import Derived.Test.YtcnddedeeplbcaaGreatAbsCore
namespace Go.Abs

theorem find_cons_self {α:Type} (k:Nat) (v:α) (r:List (Nat × α)):find ((k,v) :: r) k=some v:=by simp [find]
theorem find_cons_ne {α:Type} {k t:Nat} (v:α) (r:List (Nat × α)) (h:t ≠ k):find ((k,v) :: r) t=find r t:=by simp [find,h]

theorem St.obj_setObj_same (st:St) (o:Nat) (x:AObj):(st.setObj o x).obj o=x:=by simp [St.obj,St.setObj,find]
theorem St.obj_setObj_ne (st:St) {o o':Nat} (x:AObj) (h:o' ≠ o):(st.setObj o x).obj o'=st.obj o':=by simp [St.obj,St.setObj,find,h]
theorem St.obj_addObj_same (st:St) (x:AObj):(st.addObj x).obj st.next=x:=by simp [St.obj,St.addObj,find]
theorem St.obj_addObj_ne (st:St) {o':Nat} (x:AObj) (h:o' ≠ st.next):(st.addObj x).obj o'=st.obj o':=by simp [St.obj,St.addObj,find,h]

def upd {α:Type} (f:Nat -> α) (o:Nat) (x:α):Nat -> α:=fun k=>if k=o then x else f k
theorem upd_same {α:Type} (f:Nat -> α) (o:Nat) (x:α):upd f o x o=x:=by simp [upd]
theorem upd_ne {α:Type} (f:Nat -> α) {o k:Nat} (x:α) (h:k ≠ o):upd f o x k=f k:=by simp [upd,h]

section
variable {B:Base} {N:Nat} {st st':St} {β β':Nat -> Info} {φ φ':Nat -> List Nat} {a:Act} {w w':World}

theorem SR.change0 (h:SR B N st β φ a w) (K:Nat -> Prop) (henv:st'.env=st.env) (hnext:st.next <= st'.next)
  (hob:∀ o,¬ K o -> st'.obj o=st.obj o) (hβ:∀ o,o < st.next -> ¬ K o -> β' o=β o) (hβ0:∀ o,o < B.n -> β' o=β o) (hφ:∀ o,¬ K o -> φ' o=φ o)
  (hdead:∀ o,st'.next <= o -> st'.obj o=.dead)
  (hcomp:∀ o,K o -> o < st.next -> st.obj o ≠ .hole -> Compat (st.obj o) (st'.obj o) /\ (st'.obj o ≠ .dead -> β' o=β o))
  (hfrm:Frm w (fun b=>∃ o,K o /\ b ∈ φ o) w')
  (hobj:(st.ctx w β φ).Le (st'.ctx w' β' φ') -> ∀ o,K o -> ObjRel (st'.ctx w' β' φ') φ' o)
  (hnodup:∀ o,K o -> (φ' o).Nodup)
  (hfp:∀ o,K o -> ∀ b ∈ φ' o,b < w'.heap.size /\ (w.heap.size <= b \/ ∃ o1,K o1 /\ b ∈ φ o1))
  (hdisj:∀ o o',K o -> K o' -> o ≠ o' -> ∀ b ∈ φ' o,b ∉ φ' o') :
  (st.ctx w β φ).Le (st'.ctx w' β' φ') /\ SR B N st' β' φ' a w':=by
 have le:(st.ctx w β φ).Le (st'.ctx w' β' φ'):=by
  refine ⟨hfrm.size,fun b hb hM=>hfrm.block b hb (fun ⟨o,_,ho⟩=>hM ⟨o,ho⟩),fun b ⟨o,ho⟩=>?_,fun o ho hh=>?_,hnext⟩
  ·by_cases hk:K o
   ·rcases (hfp o hk b ho).2 with h1 | ⟨o1,_,h1⟩
    ·exact .inr h1
    ·exact .inl ⟨o1,h1⟩
   ·rw [hφ o hk] at ho
    exact .inl ⟨o,ho⟩
  ·by_cases hk:K o
   ·exact hcomp o hk ho hh
   ·exact ⟨by show Compat (st.obj o) (st'.obj o);rw [hob o hk];exact .refl _,fun _=>hβ o ho hk⟩
 refine ⟨le,h.size,h.defers.mono (fun D hlt hD=>⟨hfrm.block D hlt (fun ⟨o,_,ho⟩=>hD o ho),fun o ho=>by
  by_cases hk:K o
  ·rcases (hfp o hk D ho).2 with h1 | ⟨o1,_,h1⟩
   ·omega
   ·exact hD o1 h1
  ·rw [hφ o hk] at ho;exact hD o ho⟩),fun t v hv=>?_,hdead,fun o=>?_,fun o=>?_,fun o o' hne b hb hb'=>?_,fun o b hb=>?_,?_,⟨Nat.le_trans h.init.1 hnext,fun o ho=>(hβ0 o ho).trans (h.init.2 o ho)⟩⟩
 ·rw [henv] at hv
  exact ⟨(h.env t v hv).1,(h.env t v hv).2.mono le⟩
 ·by_cases hk:K o
  ·exact hobj le o hk
  ·refine (h.objs o).mono le (hob o hk) (fun hd=>hβ o (Classical.byContradiction fun hn=>hd ((hob o hk).trans (h.dead o (by omega)))) hk) (hφ o hk) (fun b hb=>hfrm.block b (h.fp o b hb).1 ?_)
   rintro ⟨o1,k1,h1⟩
   exact h.disj o o1 (fun e=>hk (e ▸ k1)) b hb h1
 ·by_cases hk:K o
  ·exact hnodup o hk
  ·rw [hφ o hk];exact h.nodup o
 ·by_cases hk:K o <;> by_cases hk':K o'
  ·exact hdisj o o' hk hk' hne b hb hb'
  ·rw [hφ o' hk'] at hb'
   rcases (hfp o hk b hb).2 with h1 | ⟨o1,k1,h1⟩
   ·have:=(h.fp o' b hb').1;omega
   ·exact h.disj o1 o' (fun e=>hk' (e ▸ k1)) b h1 hb'
  ·rw [hφ o hk] at hb
   rcases (hfp o' hk' b hb').2 with h1 | ⟨o1,k1,h1⟩
   ·have:=(h.fp o b hb).1;omega
   ·exact h.disj o o1 (fun e=>hk (e ▸ k1)) b hb h1
  ·rw [hφ o hk] at hb
   rw [hφ o' hk'] at hb'
   exact h.disj o o' hne b hb hb'
 ·by_cases hk:K o
  ·obtain ⟨h1,h2⟩:=hfp o hk b hb
   refine ⟨h1,?_⟩
   rcases h2 with h2 | ⟨o1,k1,h2⟩
   ·exact .inr (Nat.le_trans h.frame.size h2)
   ·exact (h.fp o1 b h2).2
  ·rw [hφ o hk] at hb
   obtain ⟨h1,h2⟩:=h.fp o b hb
   exact ⟨Nat.lt_of_lt_of_le h1 hfrm.size,h2⟩
 ·refine h.frame.trans hfrm (fun b hb ⟨o,_,ho⟩=>?_)
  rcases (h.fp o b ho).2 with h1 | h1
  ·exact h1
  ·omega

theorem SR.change (h:SR B N st β φ a w) (K:Nat -> Prop) (henv:st'.env=st.env) (hnext:st.next <= st'.next)
  (hob:∀ o,¬ K o -> st'.obj o=st.obj o) (hβ:∀ o,o < st.next -> β' o=β o) (hφ:∀ o,¬ K o -> φ' o=φ o)
  (hdead:∀ o,st'.next <= o -> st'.obj o=.dead)
  (hcomp:∀ o,K o -> o < st.next -> Compat (st.obj o) (st'.obj o) /\ (st'.obj o ≠ .dead -> β' o=β o))
  (hfrm:Frm w (fun b=>∃ o,K o /\ b ∈ φ o) w')
  (hobj:(st.ctx w β φ).Le (st'.ctx w' β' φ') -> ∀ o,K o -> ObjRel (st'.ctx w' β' φ') φ' o)
  (hnodup:∀ o,K o -> (φ' o).Nodup)
  (hfp:∀ o,K o -> ∀ b ∈ φ' o,b < w'.heap.size /\ (w.heap.size <= b \/ ∃ o1,K o1 /\ b ∈ φ o1))
  (hdisj:∀ o o',K o -> K o' -> o ≠ o' -> ∀ b ∈ φ' o,b ∉ φ' o') :
  (st.ctx w β φ).Le (st'.ctx w' β' φ') /\ SR B N st' β' φ' a w' :=
 h.change0 K henv hnext hob (fun o ho _=>hβ o ho) (fun o ho=>hβ o (Nat.lt_of_lt_of_le ho h.init.1)) hφ hdead (fun o hk ho _=>hcomp o hk ho) hfrm hobj hnodup hfp hdisj

theorem room_obj (st:St) (k:Nat) (o:Nat):({ st with objs:=(List.range' st.next k).map (fun o=>(o,AObj.hole)) ++ st.objs,next:=st.next + k }:St).obj o=if st.next <= o /\ o < st.next + k then .hole else st.obj o:=by
 show (find ((List.range' st.next k).map (fun o=>(o,AObj.hole)) ++ st.objs) o).getD .dead=_
 generalize st.next=n
 induction k generalizing n with
 | zero=>rw [if_neg (by omega)];rfl
 | succ k ih =>
  rw [List.range'_succ,List.map_cons,List.cons_append]
  unfold find
  by_cases e:o=n
  ·subst e;simp
  ·rw [if_neg e,ih (n + 1)]
   by_cases h1:n + 1 <= o /\ o < n + 1 + k
   ·rw [if_pos h1,if_pos (by omega)]
   ·rw [if_neg h1,if_neg (by omega)]

theorem SR.room (h:SR B N st β φ a w) (k:Nat):SR B N { st with objs:=(List.range' st.next k).map (fun o=>(o,AObj.hole)) ++ st.objs,next:=st.next + k } β φ a w:=by
 have hob:=room_obj st k
 have hz:∀ o,st.next <= o -> φ o=[]:=fun o ho=>by
  have h1:=h.objs o
  unfold ObjRel at h1
  rw [show (st.ctx w β φ).ob o=.dead from h.dead o ho] at h1
  exact h1
 refine (h.change0 (st':={ st with objs:=(List.range' st.next k).map (fun o=>(o,AObj.hole)) ++ st.objs,next:=st.next + k }) (β':=β) (φ':=φ) (w':=w) (fun o=>st.next <= o /\ o < st.next + k) rfl (by show st.next <= st.next + k;omega) (fun o ho=>by rw [hob,if_neg ho]) (fun _ _ _=>rfl) (fun _ _=>rfl) (fun _ _=>rfl)
  (fun o ho=>?_) (fun o hk ho=>absurd hk.1 (by omega)) (Frm.refl w _) (fun le o hk=>?_) (fun o _=>h.nodup o) (fun o hk b hb=>by rw [hz o hk.1] at hb;cases hb) (fun o o' _ _ hne=>h.disj o o' hne)).2
 ·have ho':st.next + k <= o:=ho
  rw [hob,if_neg (by omega)]
  exact h.dead o (by omega)
 ·unfold ObjRel
  rw [show (St.ctx { st with objs:=(List.range' st.next k).map (fun o=>(o,AObj.hole)) ++ st.objs,next:=st.next + k } w β φ).ob o=.hole from by show St.obj _ o=_;rw [hob,if_pos hk]]
  exact hz o hk.1

theorem SR.bring (h:SR B N st β φ a w) {id:Nat} (x:AObj) (i:Info) (bs:List Nat) (hid:id < st.next) (hB:B.n <= id) (hh:st.obj id=.hole) (hfrm:Frm w (fun _=>False) w') (hbs:∀ b ∈ bs,b < w'.heap.size /\ w.heap.size <= b) (hnd:bs.Nodup)
  (hobj:(st.ctx w β φ).Le ((st.setObj id x).ctx w' (upd β id i) (upd φ id bs)) -> ObjRel ((st.setObj id x).ctx w' (upd β id i) (upd φ id bs)) (upd φ id bs) id) :
  (st.ctx w β φ).Le ((st.setObj id x).ctx w' (upd β id i) (upd φ id bs)) /\ SR B N (st.setObj id x) (upd β id i) (upd φ id bs) a w':=by
 refine h.change0 (fun o=>o=id) rfl (Nat.le_refl _) (fun o ho=>St.obj_setObj_ne st x ho) (fun o _ ho=>upd_ne _ _ ho) (fun o ho=>upd_ne _ _ (by omega)) (fun o ho=>upd_ne _ _ ho)
  (fun o ho=>?_) (fun o ho _ hn=>absurd hh (ho ▸ hn)) (hfrm.mono (fun _ _ hf=>hf.elim)) (fun le o ho=>by subst ho;exact hobj le) (fun o ho=>by subst ho;rw [upd_same];exact hnd)
  (fun o ho b hb=>?_) (fun o o' ho ho' hne=>absurd (ho.trans ho'.symm) hne)
 ·have:st.next <= o:=ho
  rw [St.obj_setObj_ne st x (by omega)]
  exact h.dead o this
 ·subst ho
  rw [upd_same] at hb
  exact ⟨(hbs b hb).1,.inl (hbs b hb).2⟩

theorem SR.alike (h:SR B N st β φ a w) (h1:st'.env=st.env) (h2:st'.next=st.next) (h3:∀ k,st'.obj k=st.obj k):SR B N st' β φ a w:=by
 have hc:st'.ctx w β φ=st.ctx w β φ:=by
  unfold St.ctx
  rw [h2,show st'.obj=st.obj from funext h3]
 refine ⟨h.size,h.defers,fun t v hv=>?_,fun o ho=>?_,fun o=>?_,h.nodup,h.disj,h.fp,h.frame,⟨by rw [h2];exact h.init.1,h.init.2⟩⟩
 ·rw [hc];rw [h1] at hv;exact h.env t v hv
 ·rw [h3];exact h.dead o (by rw [<- h2];exact ho)
 ·rw [hc];exact h.objs o

theorem SR.drew (h:SR B N st β φ a w):(st.ctx w β φ).Le (st.ctx w.drew β φ) /\ SR B N st β φ a w.drew :=
 h.change (fun _=>False) rfl (Nat.le_refl _) (fun _ _=>rfl) (fun _ _=>rfl) (fun _ _=>rfl) h.dead (fun _ hk=>hk.elim)
  ((Frm.refl w _).drew) (fun _ _ hk=>hk.elim) (fun _ hk=>hk.elim) (fun _ hk=>hk.elim) (fun _ _ hk=>hk.elim)

theorem SR.add (h:SR B N st β φ a w) (x:AObj) (i:Info) (bs:List Nat) (hfrm:Frm w (fun _=>False) w') (hbs:∀ b ∈ bs,b < w'.heap.size /\ w.heap.size <= b) (hnd:bs.Nodup)
  (hobj:(st.ctx w β φ).Le ((st.addObj x).ctx w' (upd β st.next i) (upd φ st.next bs)) -> ObjRel ((st.addObj x).ctx w' (upd β st.next i) (upd φ st.next bs)) (upd φ st.next bs) st.next) :
  (st.ctx w β φ).Le ((st.addObj x).ctx w' (upd β st.next i) (upd φ st.next bs)) /\ SR B N (st.addObj x) (upd β st.next i) (upd φ st.next bs) a w':=by
 have hz:φ st.next=[]:=by
  have h1:=h.objs st.next
  unfold ObjRel at h1
  rw [show (st.ctx w β φ).ob st.next=.dead from h.dead _ (Nat.le_refl _)] at h1
  exact h1
 refine h.change (fun o=>o=st.next) rfl (Nat.le_succ _) (fun o ho=>St.obj_addObj_ne st x ho) (fun o ho=>upd_ne _ _ (by omega)) (fun o ho=>upd_ne _ _ ho)
  (fun o ho=>?_) (fun o ho hl=>absurd hl (by omega)) (hfrm.mono (fun _ _ hf=>hf.elim)) (fun le o ho=>by subst ho;exact hobj le) (fun o ho=>by subst ho;rw [upd_same];exact hnd)
  (fun o ho b hb=>?_) (fun o o' ho ho' hne=>absurd (ho.trans ho'.symm) hne)
 ·have:st.next + 1 <= o:=ho
  rw [St.obj_addObj_ne st x (by omega)]
  exact h.dead o (by omega)
 ·subst ho
  rw [upd_same] at hb
  exact ⟨(hbs b hb).1,.inl (hbs b hb).2⟩

theorem SR.put (h:SR B N st β φ a w) {d:Nat} {v:AV} {x:Value} (hd:d < N) (hv:AVRel (st.ctx w β φ) v x):SR B N (st.put d v) β φ (a.put (some d) x) w:=by
 refine ⟨by simp [Act.put,h.size],h.defers,fun t u hu=>?_,h.dead,h.objs,h.nodup,h.disj,h.fp,h.frame,h.init⟩
 simp only [St.put,find] at hu
 split at hu
 ·rename_i e
  cases hu
  subst e
  refine ⟨hd,?_⟩
  have:(a.put (some t) x).tmps.getD t undef=x:=by
   simp [Act.put,Array.getD,h.size,hd]
  rw [this]
  exact hv
 ·rename_i e
  obtain ⟨h1,h2⟩:=h.env t u hu
  refine ⟨h1,?_⟩
  have:(a.put (some d) x).tmps.getD t undef=a.tmps.getD t undef:=by
   simp only [Act.put,Array.getD_eq_getD_getElem?]
   rw [Array.getElem?_setIfInBounds_ne (fun h=>e h.symm)]
  rw [this]
  exact h2

theorem SR.putAny (h:SR B N st β φ a w) {d:Option Nat} {x:Value} (hd:∀ t,d=some t -> find st.env t=none):SR B N st β φ (a.put d x) w:=by
 cases d with
 | none=>exact h
 | some d =>
  refine ⟨by simp [Act.put,h.size],h.defers,fun t u hu=>?_,h.dead,h.objs,h.nodup,h.disj,h.fp,h.frame,h.init⟩
  obtain ⟨h1,h2⟩:=h.env t u hu
  refine ⟨h1,?_⟩
  have hne:d ≠ t:=fun e=>by have:=hd d rfl;rw [e,hu] at this;cases this
  have:(a.put (some d) x).tmps.getD t undef=a.tmps.getD t undef:=by
   simp only [Act.put,Array.getD_eq_getD_getElem?]
   rw [Array.getElem?_setIfInBounds_ne hne]
  rw [this]
  exact h2

def drop {α:Type} (t:Nat):List (Nat × α) -> List (Nat × α)
 | []=>[]
 | (k,v) :: r=>if k=t then drop t r else (k,v) :: drop t r

theorem find_drop_same {α:Type} (t:Nat):∀ (l:List (Nat × α)),find (drop t l) t=none
 | []=>rfl
 | (k,v) :: r=>by
  simp only [drop]
  split
  ·exact find_drop_same t r
  ·rename_i h
   rw [find_cons_ne _ _ (fun e=>h e.symm)]
   exact find_drop_same t r

theorem find_drop_ne {α:Type} {t k:Nat} (h:k ≠ t):∀ (l:List (Nat × α)),find (drop t l) k=find l k
 | []=>rfl
 | (k',v) :: r=>by
  simp only [drop]
  split
  ·rename_i e
   rw [find_cons_ne _ _ (by omega)]
   exact find_drop_ne h r
  ·simp only [find]
   rw [find_drop_ne h r]

theorem SR.forget (h:SR B N st β φ a w) (env:List (Nat × AV)) (he:∀ t v,find env t=some v -> find st.env t=some v):SR B N { st with env:=env } β φ a w :=
 ⟨h.size,h.defers,fun t v hv=>h.env t v (he t v hv),h.dead,h.objs,h.nodup,h.disj,h.fp,h.frame,h.init⟩

end

def constLeaf:Value -> Option Leaf
 | .int k n=>some (.dat (.int k n))
 | .bool b=>some (.dat (.bool b))
 | .string s=>some (.dat (.str s))
 | .slice none 0 0=>some .emp
 | .pointer none=>some (.dat (.hdr (.pointer none)))
 | _=>none

def constLeaves:List Value -> Option (List Leaf)
 | []=>some []
 | v :: r=>match constLeaf v,constLeaves r with
  | some l,some ls=>some (l :: ls)
  | _,_=>none

def constAV:Value -> Option AV
 | .agg vs=>(constLeaves vs.toList).map .agg
 | v=>(constLeaf v).map .one

def opA (st:St):Operand -> Option (Prop × AV)
 | .tmp t=>match find st.env t with
  | some (.ifg b v)=>some (b=true,v)
  | some v=>some (True,v)
  | none=>none
 | .const v=>(constAV v).map fun v=>(True,v)
 | .func f=>some (True,.one (.fn f []))
 | .global g=>match find tabs g with
  | some (.rows sz rs)=>some (True,.one (.ptr (.ro sz rs 0 0)))
  | _=>none

theorem constLeaf_sound (C:Ctx) {v:Value} {l:Leaf} (h:constLeaf v=some l):LeafRel C l v:=by
 unfold constLeaf at h
 split at h <;> cases h
 ·exact ⟨[],.int ..,by simp⟩
 ·exact ⟨[],.bool ..,by simp⟩
 ·exact ⟨[],.str ..,by simp⟩
 ·exact ⟨none,rfl⟩
 ·exact ⟨[],.hdr _ rfl,by simp⟩

theorem constLeaves_sound (C:Ctx):∀ {vs:List Value} {ls:List Leaf},constLeaves vs=some ls -> Leaves C ls vs
 | [],ls,h=>by cases h;exact ⟨rfl,fun j l hl=>by simp at hl⟩
 | v :: vs,ls,h=>by
  simp only [constLeaves] at h
  split at h
  ·rename_i l ls' h1 h2
   cases h
   obtain ⟨a,b⟩:=constLeaves_sound C h2
   refine ⟨by simp [a],fun j l' hl=>?_⟩
   cases j with
   | zero=>simp at hl;subst hl;exact ⟨v,rfl,constLeaf_sound C h1⟩
   | succ j=>simp at hl;simpa using b j l' hl
  ·cases h

theorem constAV_sound (C:Ctx) {v:Value} {x:AV} (h:constAV v=some x):AVRel C x v:=by
 unfold constAV at h
 split at h
 ·rename_i vs
  cases e:constLeaves vs.toList with
  | none=>rw [e] at h;cases h
  | some ls=>rw [e] at h;cases h;exact ⟨vs,rfl,constLeaves_sound C e⟩
 ·cases e:constLeaf v with
  | none=>rw [e] at h;cases h
  | some l=>rw [e] at h;cases h;exact constLeaf_sound C e

theorem opA_sound {B:Base} {N:Nat} {st:St} {β:Nat -> Info} {φ:Nat -> List Nat} {a:Act} {w:World} (h:SR B N st β φ a w) {x:Operand} {p:Prop} {v:AV} (hx:opA st x=some (p,v)) (hp:p) :
  AVRel (st.ctx w β φ) v (a.eval x):=by
 cases x with
 | tmp t =>
  simp only [opA] at hx
  cases e:find st.env t with
  | none=>rw [e] at hx;cases hx
  | some u =>
   rw [e] at hx
   have h1:=(h.env t u e).2
   cases u with
   | ifg b u =>
    cases hx
    have h2:=h1.1 hp
    cases v with
    | one l=>exact h2
    | agg ls=>exact h2
    | tup vs=>exact h2.elim
    | ifg b v=>exact h2.elim
   | one l=>cases hx;exact h1
   | agg ls=>cases hx;exact h1
   | tup vs=>cases hx;exact h1
 | const c =>
  simp only [opA] at hx
  cases e:constAV c with
  | none=>rw [e] at hx;cases hx
  | some u=>rw [e] at hx;cases hx;exact constAV_sound _ e
 | func f=>cases hx;exact ⟨#[],rfl,rfl,fun k c hc=>by simp at hc⟩
 | global g =>
  simp only [opA] at hx
  split at hx
  ·rename_i sz rs e
   cases hx
   obtain ⟨a1,a3,cs,T,fr,a2,a4⟩:=h.glob _ (mem_find e)
   exact ⟨g,0,cs.toList,[],by simp [Act.eval],lt_of_heap a2,a3,a4,fun j v hj=>by rw [Nat.zero_add];exact (cell_of_heap a2).trans (by rw [<- Array.getElem?_toList];exact hj),fun x hx=>by
    rcases List.mem_cons.1 hx with rfl | hx
    ·exact a1
    ·cases hx⟩
  ·cases hx

end Go.Abs
