/- Code over abstract states; a function's contract from its body. -/
import Derived.Test.YtcnddedeeplbcaaGreatAbsRange
import Derived.Deep.LoopGhost
namespace Go.Abs
set_option linter.unusedVariables false
set_option linter.unusedSimpArgs false

def Ptr.renF (ids:List Nat):Ptr -> Ptr
 | .own o i j=>.own (ids.getD o 0) i j
 | p=>p
def Leaf.renF (ids:List Nat):Leaf -> Leaf
 | .own o=>.own (ids.getD o 0)
 | .part o i n=>.part (ids.getD o 0) i n
 | .ptr p=>.ptr (p.renF ids)
 | .fn f caps=>.fn f (caps.map (Ptr.renF ids))
 | l=>l
def AV.renF1 (ids:List Nat):AV -> AV
 | .one l=>.one (l.renF ids)
 | .agg ls=>.agg (ls.map (Leaf.renF ids))
 | a=>a
def AV.renF (ids:List Nat):AV -> AV
 | .tup vs=>.tup (vs.map (AV.renF1 ids))
 | .ifg b v=>.ifg b (v.renF1 ids)
 | a=>a.renF1 ids
def AObj.renF (ids:List Nat):AObj -> AObj
 | .box cells=>.box (cells.map (Leaf.renF ids))
 | x=>x

def envLe (st:St) (ids:List Nat):List (Nat × AV) -> Prop
 | []=>True
 | (t,v) :: r=>find st.env t=some (v.renF ids) /\ envLe st ids r

def objsLe (st:St) (ids:List Nat):List Nat -> List AObj -> Prop
 | [],[]=>True
 | i :: is,x :: xs=>(i < st.next /\ (x=.dead \/ st.obj i=x.renF ids)) /\ objsLe st ids is xs
 | _,_=>False

def Weaker (nf:Nat) (st:St) (ids:List Nat) (env:List (Nat × AV)) (xs:List AObj):Prop :=
 nf <= ids.length /\ ids.take nf=List.range nf /\ ids.Nodup /\ objsLe st ids ids xs /\ envLe st ids env

def Ent (nf:Nat) (st st':St):Prop:=∀ (B:Base) (N:Nat) β φ a w,B.n=nf -> SR B N st β φ a w -> ∃ β' φ',SR B N st' β' φ' a w

theorem Ent.refl (nf:Nat) (st:St):Ent nf st st:=fun B N β φ a w _ h=>⟨β,φ,h⟩
theorem Ent.trans {nf:Nat} {st st' st'':St} (h:Ent nf st st') (h':Ent nf st' st''):Ent nf st st'':=fun B N β φ a w hB sr =>
 let ⟨β',φ',s⟩:=h B N β φ a w hB sr
 h' B N β' φ' a w hB s

theorem mem_of_find {α:Type}:∀ {l:List (Nat × α)} {t:Nat} {v:α},find l t=some v -> (t,v) ∈ l
 | (k,u) :: r,t,v,h=>by
  simp only [find] at h
  split at h
  ·rename_i e;cases h;subst e;exact List.mem_cons_self ..
  ·exact List.mem_cons_of_mem _ (mem_of_find h)

theorem envLe_mem {st:St} {ids:List Nat}:∀ {env:List (Nat × AV)},envLe st ids env -> ∀ t v,(t,v) ∈ env -> find st.env t=some (v.renF ids)
 | (k,u) :: r,h,t,v,hm=>by
  cases hm with
  | head=>exact h.1
  | tail _ hm=>exact envLe_mem h.2 t v hm

theorem objsLe_get {st:St} {ids:List Nat}:∀ {is:List Nat} {xs:List AObj},objsLe st ids is xs -> is.length=xs.length /\ ∀ (k:Nat) (x:AObj),xs[k]?=some x -> ∃ i,is[k]?=some i /\ i < st.next /\ (x=.dead \/ st.obj i=x.renF ids)
 | [],[],_=>⟨rfl,fun k x h=>by simp at h⟩
 | i :: is,x :: xs,h=>by
  obtain ⟨h1,h2⟩:=objsLe_get h.2
  refine ⟨by simp [h1],fun k y hk=>?_⟩
  cases k with
  | zero=>simp at hk;subst hk;exact ⟨i,rfl,h.1.1,h.1.2⟩
  | succ k=>simp at hk;simpa using h2 k y (by simpa using hk)
 | [],_ :: _,h=>h.elim
 | _ :: _,[],h=>h.elim

section
variable {P:Program} {B:Base} {N:Nat} {st st':St} {β:Nat -> Info} {φ:Nat -> List Nat} {a:Act} {w w':World} {nf:Nat} {ids:List Nat} {env:List (Nat × AV)} {xs:List AObj}

def AObj.live:AObj -> Bool
 | .dead=>false
 | _=>true

def renCtx (st:St) (w:World) (β:Nat -> Info) (φ:Nat -> List Nat) (ids:List Nat) (xs:List AObj):Ctx :=
 ⟨w,fun k=>β (ids.getD k 0),fun k=>xs.getD k .dead,fun b=>∃ k,b ∈ (if (xs.getD k .dead).live=true then φ (ids.getD k 0) else []),xs.length⟩

theorem renM (b:Nat) (h:(renCtx st w β φ ids xs).M b):(st.ctx w β φ).M b:=by
 obtain ⟨k,hk⟩:=h
 split at hk
 ·exact ⟨_,hk⟩
 ·cases hk

theorem ptr_ren (ho:objsLe st ids ids xs) {p:Ptr} {v:Value} (hw:∀ o i j,p=.own o i j -> o < xs.length) (h:PtrRel (st.ctx w β φ) (p.renF ids) v):PtrRel (renCtx st w β φ ids xs) p v:=by
 obtain ⟨hl,hg⟩:=objsLe_get ho
 cases p with
 | ro sz rows i j =>
  obtain ⟨b,off,vs,S,h1,h2,h3,h4,h5,h6⟩:=h
  exact ⟨b,off,vs,S,h1,h2,h3,h4,h5,fun x hx hm=>h6 x hx (renM x hm)⟩
 | own o i j =>
  have hone:=PtrRel.one h
  have hlt:=hw o i j rfl
  refine ⟨hlt,?_⟩
  obtain ⟨i',hi,hin,hx⟩:=hg o _ (List.getElem?_eq_getElem hlt)
  have hxs:(renCtx st w β φ ids xs).ob o=xs[o]:=getD_of_some _ (List.getElem?_eq_getElem hlt)
  have hid:ids.getD o 0=i':=getD_of_some _ hi
  rw [hxs]
  rcases hx with hx | hx
  ·rw [hx];exact hone
  ·obtain ⟨_,h⟩:=h
   have hob:(st.ctx w β φ).ob (ids.getD o 0)=AObj.renF ids xs[o]:=by rw [hid];exact hx
   rw [hob] at h
   cases e:xs[o] with
   | dead=>exact hone
   | hole=>rw [e] at h;exact h.elim
   | pin _ _=>rw [e] at h;exact h.elim
   | ballast _=>rw [e] at h;exact h.elim
   | box cells=>rw [e] at h;exact h
   | vec sz sep rows=>rw [e] at h;exact h
   | frz sz rows=>rw [e] at h;exact h
   | wide sz n rows=>rw [e] at h;exact h

def Ptr.Low (n:Nat):Ptr -> Prop
 | .own o _ _=>o < n
 | _=>True
def Leaf.Low (n:Nat):Leaf -> Prop
 | .own o=>o < n
 | .part o _ _=>o < n
 | .ptr p=>p.Low n
 | .fn _ caps=>∀ c ∈ caps,c.Low n
 | _=>True
def AV.Low1 (n:Nat):AV -> Prop
 | .one l=>l.Low n
 | .agg ls=>∀ l ∈ ls,l.Low n
 | _=>True
def AV.Low (n:Nat):AV -> Prop
 | .tup vs=>∀ v ∈ vs,v.Low1 n
 | .ifg _ v=>v.Low1 n
 | v=>v.Low1 n
def AObj.Low (n:Nat):AObj -> Prop
 | .box cells=>∀ l ∈ cells,l.Low n
 | .pin _ _=>False
 | _=>True

theorem leaf_ren (ho:objsLe st ids ids xs) {l:Leaf} {v:Value} (hw:l.Low xs.length) (h:LeafRel (st.ctx w β φ) (l.renF ids) v):LeafRel (renCtx st w β φ ids xs) l v:=by
 obtain ⟨hl,hg⟩:=objsLe_get ho
 cases l with
 | dat d=>obtain ⟨S,h1,h2⟩:=h;exact ⟨S,h1,fun x hx hm=>h2 x hx (renM x hm)⟩
 | emp=>exact h
 | own o =>
  have hone:=LeafRel.one h
  have hlt:o < xs.length:=hw
  refine ⟨hlt,?_⟩
  obtain ⟨i',hi,hin,hx⟩:=hg o _ (List.getElem?_eq_getElem hlt)
  have hxs:(renCtx st w β φ ids xs).ob o=xs[o]:=getD_of_some _ (List.getElem?_eq_getElem hlt)
  have hid:ids.getD o 0=i':=getD_of_some _ hi
  rw [hxs]
  rcases hx with hx | hx
  ·rw [hx];exact hone
  ·obtain ⟨_,h⟩:=h
   have hob:(st.ctx w β φ).ob (ids.getD o 0)=AObj.renF ids xs[o]:=by rw [hid];exact hx
   rw [hob] at h
   cases e:xs[o] with
   | dead=>exact hone
   | hole=>rw [e] at h;exact h.elim
   | pin _ _=>rw [e] at h;exact h.elim
   | ballast _=>rw [e] at h;exact h.elim
   | box cells=>exact hone
   | vec sz sep rows=>rw [e] at h;exact h
   | frz sz rows=>rw [e] at h;exact h
   | wide sz n rows=>rw [e] at h;exact h
 | part o i n =>
  have hone:=LeafRel.one h
  have hlt:o < xs.length:=hw
  refine ⟨hlt,?_⟩
  obtain ⟨i',hi,hin,hx⟩:=hg o _ (List.getElem?_eq_getElem hlt)
  have hxs:(renCtx st w β φ ids xs).ob o=xs[o]:=getD_of_some _ (List.getElem?_eq_getElem hlt)
  have hid:ids.getD o 0=i':=getD_of_some _ hi
  rw [hxs]
  rcases hx with hx | hx
  ·rw [hx];exact hone
  ·obtain ⟨_,h⟩:=h
   have hob:(st.ctx w β φ).ob (ids.getD o 0)=AObj.renF ids xs[o]:=by rw [hid];exact hx
   rw [hob] at h
   cases e:xs[o] with
   | dead=>exact hone
   | hole=>rw [e] at h;exact h.elim
   | pin _ _=>rw [e] at h;exact h.elim
   | ballast _=>rw [e] at h;exact h.elim
   | box cells=>rw [e] at h;exact h
   | vec sz sep rows=>rw [e] at h;exact h
   | frz sz rows=>exact hone
   | wide sz n rows=>rw [e] at h;exact h
 | ptr p=>exact ptr_ren ho (fun o i j e=>by subst e;exact hw) h
 | fn f caps =>
  obtain ⟨cvs,h1,h2,h3⟩:=h
  refine ⟨cvs,h1,by simpa using h2,fun k c hc=>?_⟩
  obtain ⟨x,hx,hr⟩:=h3 k (c.renF ids) (by rw [List.getElem?_map,hc];rfl)
  exact ⟨x,hx,ptr_ren ho (fun o i j e=>by have:=hw c (List.mem_of_getElem? hc);rw [e] at this;exact this) hr⟩

theorem leaves_ren (ho:objsLe st ids ids xs) {ls:List Leaf} {vs:List Value} (hw:∀ l ∈ ls,l.Low xs.length) (h:Leaves (st.ctx w β φ) (ls.map (Leaf.renF ids)) vs):Leaves (renCtx st w β φ ids xs) ls vs :=
 ⟨by simpa using h.1,fun j l hl=>by
  obtain ⟨v,hv,hr⟩:=h.2 j (l.renF ids) (by rw [List.getElem?_map,hl];rfl)
  exact ⟨v,hv,leaf_ren ho (hw l (List.mem_of_getElem? hl)) hr⟩⟩

theorem pv_ren (ho:objsLe st ids ids xs) {u:AV} {v:Value} (hw:u.Low1 xs.length) (h:PVRel (st.ctx w β φ) (u.renF1 ids) v):PVRel (renCtx st w β φ ids xs) u v:=by
 cases u with
 | one l=>exact leaf_ren ho hw h
 | agg ls=>obtain ⟨vs,h1,h2⟩:=h;exact ⟨vs,h1,leaves_ren ho hw h2⟩
 | tup vs=>exact h.elim
 | ifg b v=>exact h.elim

theorem av_ren (ho:objsLe st ids ids xs) {u:AV} {v:Value} (hw:u.Low xs.length) (h:AVRel (st.ctx w β φ) (u.renF ids) v):AVRel (renCtx st w β φ ids xs) u v:=by
 cases u with
 | one l=>exact pv_ren (u:=.one l) ho hw h
 | agg ls=>exact pv_ren (u:=.agg ls) ho hw h
 | tup vs =>
  obtain ⟨ys,h1,h2,h3⟩:=h
  refine ⟨ys,h1,by simpa using h2,fun j u hu=>?_⟩
  obtain ⟨x,hx,hr⟩:=h3 j (u.renF1 ids) (by rw [List.getElem?_map,hu];rfl)
  exact ⟨x,hx,pv_ren ho (hw u (List.mem_of_getElem? hu)) hr⟩
 | ifg b u=>exact ⟨fun hb=>pv_ren ho hw (h.1 hb),h.2⟩

def LowAll (env:List (Nat × AV)) (xs:List AObj):Prop:=(∀ p ∈ env,p.2.Low xs.length) /\ ∀ x ∈ xs,x.Low xs.length

theorem weaker_SR (hw:Weaker nf st ids env xs) (hlow:LowAll env xs) (hB:B.n=nf) (h:SR B N st β φ a w) :
  ∃ β' φ',SR B N (mkSt env xs) β' φ' a w /\ (∀ k,β' k=β (ids.getD k 0)) /\ (mkSt env xs).ctx w β' φ'=renCtx st w β φ ids xs:=by
 obtain ⟨hnf,htake,hnd,ho,he⟩:=hw
 obtain ⟨hl,hg⟩:=objsLe_get ho
 let β':Nat -> Info:=fun k=>β (ids.getD k 0)
 let φ':Nat -> List Nat:=fun k=>if (xs.getD k .dead).live=true then φ (ids.getD k 0) else []
 have hctx:(mkSt env xs).ctx w β' φ'=renCtx st w β φ ids xs:=by
  show Ctx.mk w β' (mkSt env xs).obj _ _=_
  rw [show (mkSt env xs).obj=fun k=>xs.getD k .dead from funext fun k=>mkSt_obj env xs k]
  rfl
 have hlive:∀ k,φ' k ≠ [] -> k < xs.length /\ φ' k=φ (ids.getD k 0):=fun k hk=>by
  have:(xs.getD k .dead).live=true:=Classical.byContradiction fun hn=>hk (if_neg hn)
  refine ⟨?_,if_pos this⟩
  apply Classical.byContradiction
  intro hn
  rw [List.getD_eq_getElem?_getD,List.getElem?_eq_none (by omega)] at this
  cases this
 have hmem:∀ k b,b ∈ φ' k -> k < xs.length /\ b ∈ φ (ids.getD k 0):=fun k b hb=>by
  obtain ⟨h1,h2⟩:=hlive k (fun e=>by rw [e] at hb;cases hb)
  exact ⟨h1,h2 ▸ hb⟩
 have hidn:∀ k,k < nf -> ids.getD k 0=k:=fun k hk=>by
  have:ids[k]?=some k:=by
   have h1:(ids.take nf)[k]?=some k:=by rw [htake];simp [hk]
   rw [List.getElem?_take,if_pos hk] at h1
   exact h1
  exact getD_of_some _ this
 refine ⟨β',φ',⟨h.size,h.defers.mono (fun D _ hD=>⟨rfl,fun k hk=>hD _ (hmem k D hk).2⟩),fun t v hv=>?_,fun o ho'=>?_,fun o=>?_,fun o=>?_,fun o o' hne b hb hb'=>?_,fun o b hb=>?_,h.frame,?_⟩,fun _=>rfl,hctx⟩
 ·have hm:=mem_of_find hv
  obtain ⟨h1,h2⟩:=h.env t _ (envLe_mem he t v hm)
  exact ⟨h1,by rw [hctx];exact av_ren ho (hlow.1 _ hm) h2⟩
 ·rw [mkSt_obj]
  have ho'':xs.length <= o:=ho'
  rw [List.getD_eq_getElem?_getD,List.getElem?_eq_none ho'']
  rfl
 ·rw [hctx]
  unfold ObjRel
  by_cases hk:o < xs.length
  ·obtain ⟨i,hi,hin,hx⟩:=hg o _ (List.getElem?_eq_getElem hk)
   have hid:ids.getD o 0=i:=getD_of_some _ hi
   have hxs:xs.getD o .dead=xs[o]:=getD_of_some _ (List.getElem?_eq_getElem hk)
   rw [show (renCtx st w β φ ids xs).ob o=_ from hxs]
   have hob:=h.objs i
   unfold ObjRel at hob
   have hβi:(renCtx st w β φ ids xs).β o=(st.ctx w β φ).β i:=by show β (ids.getD o 0)=β i;rw [hid]
   rcases hx with hx | hx
   ·rw [hx]
    show φ' o=[]
    show (if (xs.getD o .dead).live=true then _ else _)=_
    rw [hxs,hx]
    rfl
   ·rw [show (st.ctx w β φ).ob i=_ from hx] at hob
    cases e:xs[o] with
    | dead =>
     show φ' o=[]
     show (if (xs.getD o .dead).live=true then _ else _)=_
     rw [hxs,e]
     rfl
    | hole =>
     show φ' o=[]
     show (if (xs.getD o .dead).live=true then φ (ids.getD o 0) else _)=_
     rw [hxs,e,hid]
     rw [e] at hob
     exact hob
    | pin a b =>
     have:=hlow.2 xs[o] (List.getElem_mem hk)
     rw [e] at this
     exact this.elim
    | ballast l =>
     have hφo:φ' o=φ i:=by
      show (if (xs.getD o .dead).live=true then φ (ids.getD o 0) else _)=_
      rw [hxs,e,hid]
      rfl
     rw [e] at hob
     obtain ⟨h1,h2⟩:=hob
     exact ⟨by rw [hφo];exact h1,h2⟩
    | box cells =>
     have hφo:φ' o=φ i:=by
      show (if (xs.getD o .dead).live=true then φ (ids.getD o 0) else _)=_
      rw [hxs,e,hid]
      rfl
     rw [e] at hob
     obtain ⟨b,T,vs,h1,h2,h3,h4⟩:=hob
     refine ⟨b,T,vs,by rw [hβi];exact h1,by rw [hφo];exact h2,h3,leaves_ren ho (fun l hl'=>?_) h4⟩
     have:=hlow.2 xs[o] (List.getElem_mem hk)
     rw [e] at this
     exact this l hl'
    | vec sz sep rows =>
     have hφo:φ' o=φ i:=by
      show (if (xs.getD o .dead).live=true then φ (ids.getD o 0) else _)=_
      rw [hxs,e,hid]
      rfl
     rw [e] at hob
     obtain ⟨h1,h2,h3⟩:=hob
     refine ⟨h1,by rw [hβi];exact h2,?_⟩
     rw [hβi,hφo]
     rcases h3 with h3 | ⟨b,T,S,E,vs,b1,b2,b3,b4,b5,b6⟩
     ·exact .inl h3
     ·refine .inr ⟨b,T,S,E,vs,b1,b2,b3,b4,b5,?_⟩
      cases sep with
      | true=>exact b6
      | false=>exact fun x hx hm=>b6 x hx (renM x hm)
    | frz sz rows =>
     have hφo:φ' o=φ i:=by
      show (if (xs.getD o .dead).live=true then φ (ids.getD o 0) else _)=_
      rw [hxs,e,hid]
      rfl
     rw [e] at hob
     obtain ⟨h1,h2,S,h3,h4⟩:=hob
     exact ⟨by rw [hφo];exact h1,by rw [hβi];exact h2,S,by rw [hβi];exact h3,fun x hx hm=>h4 x hx (renM x hm)⟩
    | wide sz n rows =>
     have hφo:φ' o=φ i:=by
      show (if (xs.getD o .dead).live=true then φ (ids.getD o 0) else _)=_
      rw [hxs,e,hid]
      rfl
     rw [e] at hob
     obtain ⟨h1,h2,h4,h3⟩:=hob
     refine ⟨h1,h2,by rw [hβi];exact h4,?_⟩
     rw [hβi,hφo]
     rcases h3 with h3 | ⟨b,T,vs,b1,b2,b3,E,b5⟩
     ·exact .inl h3
     ·exact .inr ⟨b,T,vs,b1,b2,b3,E,b5⟩
  ·have:xs.getD o .dead=.dead:=by rw [List.getD_eq_getElem?_getD,List.getElem?_eq_none (by omega)];rfl
   rw [show (renCtx st w β φ ids xs).ob o=_ from this]
   show φ' o=[]
   exact Classical.byContradiction fun hn=>hk (hlive o hn).1
 ·by_cases hn:φ' o=[]
  ·rw [hn];exact List.nodup_nil
  ·rw [(hlive o hn).2];exact h.nodup _
 ·obtain ⟨h1,h2⟩:=hmem o b hb
  obtain ⟨h1',h2'⟩:=hmem o' b hb'
  refine h.disj _ _ (fun e=>hne ?_) b h2 h2'
  rw [List.getD_eq_getElem?_getD,List.getD_eq_getElem?_getD,List.getElem?_eq_getElem (by omega),List.getElem?_eq_getElem (by omega)] at e
  exact (List.getElem_inj hnd).1 e
 ·exact h.fp _ b (hmem o b hb).2
 ·refine ⟨by rw [hB];show nf <= xs.length;omega,fun o ho'=>?_⟩
  show β (ids.getD o 0)=_
  rw [hidn o (by omega)]
  exact h.init.2 o ho'

theorem Ent.weaker (hw:Weaker nf st ids env xs) (hlow:LowAll env xs):Ent nf st (mkSt env xs):=fun B N β φ a w hB h =>
 let ⟨β',φ',h1,_⟩:=weaker_SR hw hlow hB h
 ⟨β',φ',h1⟩

theorem Ent.emp {t sz:Nat} (ht:find st.env t=some (.one .emp)):Ent nf st ((st.addObj (.vec sz true [])).put t (.one (.own st.next))):=fun B N β φ a w hB h=>by
 obtain ⟨hN,b,hb⟩:=h.env t _ ht
 obtain ⟨β',φ',le,sr,hp⟩:=h.newVec0 (ks:=[]) (by simp) sz true b
 refine ⟨β',φ',sr.size,sr.defers,fun t' v hv=>?_,sr.dead,sr.objs,sr.nodup,sr.disj,sr.fp,sr.frame,sr.init⟩
 by_cases e:t'=t
 ·subst e
  rw [show find ((st.addObj (.vec sz true [])).put t' (.one (.own st.next))).env t'=_ from find_cons_self ..] at hv
  cases hv
  exact ⟨hN,by rw [hb];exact hp⟩
 ·rw [show find ((st.addObj (.vec sz true [])).put t (.one (.own st.next))).env t'=_ from find_cons_ne _ _ e] at hv
  exact sr.env t' v hv

theorem Ent.taken {v0:AV} {t o sz n:Nat} {rows:List (List D)} (hm:Mem (st.obj o) sz rows) (hn:n <= rows.length)
  (hv:∀ (w:World) (β:Nat -> Info) (φ:Nat -> List Nat) (x:Value),AVRel (st.ctx w β φ) v0 x -> ∃ bs,x=.slice bs n (β o).cap /\ (0 < (β o).cap -> bs=(β o).base)) (ht:find st.env t=some v0) :
  Ent nf st (((killAll st [o]).addObj (.vec sz true (rows.take n))).put t (.one (.own st.next))):=fun B N β φ a w hB h=>by
 obtain ⟨hN,hx⟩:=h.env t _ ht
 obtain ⟨bs,hbs1,hbs2⟩:=hv w β φ _ hx
 obtain ⟨β',φ',sr,le,hp⟩:=h.take hm hn hbs2
 refine ⟨β',φ',sr.size,sr.defers,fun t' v hv'=>?_,sr.dead,sr.objs,sr.nodup,sr.disj,sr.fp,sr.frame,sr.init⟩
 by_cases e:t'=t
 ·subst e
  rw [show find (((killAll st [o]).addObj (.vec sz true (rows.take n))).put t' (.one (.own st.next))).env t'=_ from find_cons_self ..] at hv'
  cases hv'
  exact ⟨hN,by rw [hbs1];exact hp⟩
 ·rw [show find (((killAll st [o]).addObj (.vec sz true (rows.take n))).put t (.one (.own st.next))).env t'=_ from find_cons_ne _ _ e] at hv'
  exact sr.env t' v hv'

theorem Ent.part {t o sz n:Nat} {sep:Bool} {rows:List (List D)} (ht:find st.env t=some (.one (.part o 0 n))) (eo:st.obj o=.vec sz sep rows) (hf:flatRows rows) (hn:n <= rows.length) :
  Ent nf st (((killAll st [o]).addObj (.vec sz true (rows.take n))).put t (.one (.own st.next))) :=
 Ent.taken (.inl ⟨sep,eo,hf⟩) hn (fun w β φ x hx=>by
  obtain ⟨_,hp⟩:=hx
  rw [show (st.ctx w β φ).ob o=_ from eo] at hp
  obtain ⟨_,bs,rfl,hbs⟩:=hp
  refine ⟨bs,by rw [Nat.sub_zero];rfl,fun hc=>?_⟩
  have:=hbs hc
  rw [this,Nat.zero_mul]
  show Option.map (fun x:Addr=>x.add 0) (β o).base=_
  cases (β o).base with
  | none=>rfl
  | some x=>obtain ⟨b,k,s⟩:=x;cases s <;> rfl) ht

theorem Ent.wide {t o sz m n:Nat} {rows:List (List D)} (ht:find st.env t=some (.one (.part o 0 n))) (eo:st.obj o=.wide sz m rows) (hn:n <= rows.length) (hf:flatRows rows) :
  Ent nf st (((killAll st [o]).addObj (.vec sz true (rows.take n))).put t (.one (.own st.next))) :=
 Ent.taken (.inr ⟨m,eo,hf⟩) hn (fun w β φ x hx=>by
  obtain ⟨_,hp⟩:=hx
  rw [show (st.ctx w β φ).ob o=_ from eo] at hp
  obtain ⟨_,bs,rfl,hbs⟩:=hp
  refine ⟨bs,by rw [Nat.sub_zero];rfl,fun hc=>?_⟩
  have:=hbs hc
  rw [this,Nat.zero_mul]
  show Option.map (fun x:Addr=>x.add 0) (β o).base=_
  cases (β o).base with
  | none=>rfl
  | some x=>obtain ⟨b,k,s⟩:=x;cases s <;> rfl) ht

theorem RepL.hdrs {w:World}:∀ {vs:List Value},(∀ v ∈ vs,v.oneCell'=true) -> RepL w (vs.map D.hdr) vs []
 | [],_=>.nil
 | v :: vs,h=>by
  have:=RepL.cons (w:=w) (.hdr v (h v List.mem_cons_self)) (RepL.hdrs (w:=w) (vs:=vs) (fun x hx=>h x (List.mem_cons_of_mem _ hx)))
  simpa using this

theorem SR.cut0 (h:SR B N st β φ a w) {o sz:Nat} {sep:Bool} {rows:List (List D)} (eo:st.obj o=.vec sz sep rows) {bs:Option Addr} (hbs:0 < (β o).cap -> bs=(β o).base) :
  ∃ β' φ',SR B N ((killAll st [o]).addObj (.vec sz true [])) β' φ' a w /\ (st.ctx w β φ).Le (((killAll st [o]).addObj (.vec sz true [])).ctx w β' φ') /\
   AVRel (((killAll st [o]).addObj (.vec sz true [])).ctx w β' φ') (.one (.own st.next)) (.slice bs 0 (β o).cap):=by
 have ho:=h.objs o
 unfold ObjRel at ho
 rw [show (st.ctx w β φ).ob o=_ from eo] at ho
 obtain ⟨h1,h2,h3⟩:=ho
 have hon:o < st.next:=lt_next h (by rw [eo];simp)
 have hks:∀ k ∈ [o],k < st.next:=by simpa using hon
 by_cases hc:(β o).cap=0
 ·obtain ⟨β',φ',le,sr,hp⟩:=h.newVec0 hks sz true bs
  rw [hc]
  exact ⟨β',φ',sr,le,hp⟩
 ·rcases h3 with ⟨_,h0⟩ | ⟨b,T,S,E,vs,b1,b2,b3,b4,b5,b6⟩
  ·exact absurd h0 hc
  ·obtain ⟨c1,sd,c2⟩:=b3
   have hone:∀ v ∈ vs.toList,v.oneCell'=true:=fun v hv=>by
    rw [<- List.take_append_drop (rows.length * sz) vs.toList] at hv
    exact (List.mem_append.1 hv).elim (b4.one v) (c2.one v)
   have r1:Room w vs (([]:List (List D)).length * sz) ((β o).cap * sz):=⟨c1,_,by
    rw [List.length_nil,Nat.zero_mul,List.drop_zero]
    exact RepL.hdrs hone⟩
   have r2:RepL w ([]:List (List D)).flatten (vs.toList.take (([]:List (List D)).length * sz)) []:=by
    rw [List.length_nil,Nat.zero_mul,List.take_zero]
    exact .nil
   obtain ⟨β',φ',le,sr,hp⟩:=h.newVec (ks:=[o]) (w':=w) hks (Frm.refl w _) (sz:=sz) (cap:=(β o).cap) (b:=b) (sep:=true) (rows:=[]) (S:=[]) (E:=[]) (T:=T) (vs:=vs) (by simp) (by simp) b2 r1 r2
    (fun x hx=>by
      simp only [List.mem_singleton] at hx
      subst hx
      exact ⟨lt_of_heap b2,.inr ⟨o,by simp,by rw [b5];simp⟩⟩) (by simp) (by simp only [if_true];exact ⟨List.nodup_nil,by simp,OwnL.of_flat r2 (by simp)⟩)
   refine ⟨β',φ',sr,le,?_⟩
   rw [hbs (by omega),show (β o).base=_ from b1]
   exact hp

theorem Ent.cut {t o sz:Nat} {sep:Bool} {rows:List (List D)} (ht:find st.env t=some (.one (.part o 0 0))) (eo:st.obj o=.vec sz sep rows) :
  Ent nf st (((killAll st [o]).addObj (.vec sz true [])).put t (.one (.own st.next))):=fun B N β φ a w hB h=>by
 obtain ⟨hN,hx⟩:=h.env t _ ht
 obtain ⟨_,hp⟩:=hx
 rw [show (st.ctx w β φ).ob o=_ from eo] at hp
 obtain ⟨_,bs,hbs1,hbs⟩:=hp
 obtain ⟨β',φ',sr,le,hp⟩:=h.cut0 eo (bs:=bs) (fun hc=>by
  have:=hbs hc
  rw [this,Nat.zero_mul]
  show Option.map (fun x:Addr=>x.add 0) (β o).base=_
  cases (β o).base with
  | none=>rfl
  | some x=>obtain ⟨b,k,s⟩:=x;cases s <;> rfl)
 refine ⟨β',φ',sr.size,sr.defers,fun t' v hv'=>?_,sr.dead,sr.objs,sr.nodup,sr.disj,sr.fp,sr.frame,sr.init⟩
 by_cases e:t'=t
 ·subst e
  rw [show find (((killAll st [o]).addObj (.vec sz true [])).put t' (.one (.own st.next))).env t'=_ from find_cons_self ..] at hv'
  cases hv'
  exact ⟨hN,by rw [hbs1];exact hp⟩
 ·rw [show find (((killAll st [o]).addObj (.vec sz true [])).put t (.one (.own st.next))).env t'=_ from find_cons_ne _ _ e] at hv'
  exact sr.env t' v hv'

theorem Ent.close {k n p sz:Nat} {rows:List (List D)} (e:st.obj k=.vec sz true rows) {i j:Nat} (hi:i < rows.length) (hj:j < sz) {v:Value} (hd:(rows.getD i []).getD j default=.hdr v)
  {s2:Nat} {rs:List (List D)} (en:st.obj n=.vec s2 true rs) (ep:st.obj p=.pin n v) (hkn:k ≠ n):Ent nf st (closeSt st k i j n p sz rows s2 rs):=fun B N β φ a w hB h=>by
 obtain ⟨φ',_,sr⟩:=h.closeRow e hi hj hd en ep hkn
 exact ⟨β,φ',sr⟩

theorem Ent.closeL {k n p sz:Nat} {rows:List (List D)} (e:st.obj k=.vec sz true rows) {i j:Nat} (hi:i < rows.length) (hj:j < sz) {v:Value} (hd:(rows.getD i []).getD j default=.hdr v)
  {s2:Nat} {rs:List (List D)} (en:st.obj n=lent s2 rs) (ep:st.obj p=.pin n v) (hkn:k ≠ n):Ent nf st (closeSt st k i j n p sz rows s2 rs):=Ent.close e hi hj hd en ep hkn

theorem Ent.move {t o sz:Nat} {sep:Bool} {rows:List (List D)} (ht:find st.env t=some (.one (.own o))) (eo:st.obj o=.vec sz sep rows) (hf:flatRows rows) :
  Ent nf st (((killAll st [o]).addObj (.vec sz true rows)).put t (.one (.own st.next))):=by
 have:=Ent.taken (nf:=nf) (st:=st) (t:=t) (o:=o) (sz:=sz) (n:=rows.length) (rows:=rows) (.inl ⟨sep,eo,hf⟩) (Nat.le_refl _) (fun w β φ x hx=>by
  obtain ⟨_,hp⟩:=hx
  rw [show (st.ctx w β φ).ob o=_ from eo] at hp
  simp only at hp
  exact ⟨_,hp,fun _=>rfl⟩) ht
 rwa [List.take_length] at this

def dsts:Code -> List Nat
 | .region _ ops _=>ops.toList.filterMap (·.dst)
 | .seq x y=>dsts x ++ dsts y
 | .block _ b=>dsts b
 | _=>[]

def roundAct (p1 p2:Nat) (cps:List (Nat × Bool)) (a:Act) (x y:Value):Act :=
 cps.foldl (fun a c=>a.put (some c.1) (if c.2 then y else x)) (({ a with defers:=[] }:Act).put (some p1) x |>.put (some p2) y)
def roundEnv (p1 p2:Nat) (cps:List (Nat × Bool)) (i z:Int) (env:List (Nat × AV)):List (Nat × AV) :=
 cps.foldl (fun e c=>(c.1,.one (.dat (.int .i64 (if c.2 then z else i)))) :: e) ((p2,.one (.dat (.int .i64 z))) :: (p1,.one (.dat (.int .i64 i))) :: env)

def AsgOk (P:Program) (p1 p2:Nat) (assign:Code) (cps:List (Nat × Bool)):Prop :=
 ∀ (l n:Nat) (a:Act) (x y:Value) (W:World) (K:Act -> World -> Prop),p1 < a.tmps.size -> p2 < a.tmps.size -> K (roundAct p1 p2 cps a x y) W ->
  assign.wpIn (Fence.wide.inRound l) n P (Exit.then K (fun _ _ _=>False)) (({ a with defers:=[] }:Act).put (some p1) x |>.put (some p2) y) W

theorem AsgOk.second {P:Program} {id p1 p2 d:Nat} {t:TypeId} {s:String}:AsgOk P p1 p2 (.region id #[{ dst:=some d,op:=.assign (.tmp p2),type:=t,pos:=s,after:=#[],guard:=none }] false) [(d,true)]:=by
 intro l n a x y W K h1 h2 hK
 refine wpIn_region ?_
 have e:((({ a with defers:=[] }:Act).put (some p1) x).put (some p2) y).eval (.tmp p2)=y:=by
  show ((a.tmps.setIfInBounds p1 x).setIfInBounds p2 y).getD p2 undef=y
  rw [Array.getD_eq_getD_getElem?,Array.getElem?_setIfInBounds_self_of_lt (by simpa using h2)];rfl
 show wpOpsIn _ _ _ _ _ [0] _ _
 simp only [wpOpsIn,List.getElem?_toArray,List.getElem?_cons_zero]
 rw [if_pos (by simp [Region.wanted])]
 refine ⟨fun _ _=>trivial,?_⟩
 rw [show (Fence.wide.inRound l).round=some l from rfl,Oper.semAt_some l _ _ (by intro c hc;cases hc)]
 show Oper.uponIn _ _ _ _ _ _ _ (.ok (.value (Act.eval _ (.tmp p2))) W)
 rw [e]
 exact hK

def RangeP (P:Program) (nf:Nat) (g:Operand) (ps:Array Tmp) (assign:Code) (bd:(Exit -> St -> Prop) -> St -> Prop) (ds:List Nat) (Q:Exit -> St -> Prop) (st:St):Prop :=
 ∃ (t gf c p1 p2:Nat) (cps:List (Nat × Bool)) (zs:List Int) (env0:List (Nat × AV)) (IA:List Int -> St -> Prop) (s0:St),
  g=.tmp t /\ ps=#[p1,p2] /\ AsgOk P p1 p2 assign cps /\ (∀ x ∈ cps,x.1 ∈ dsts assign) /\ BackC P gf /\ zs.length <= 1048576 /\ find env0 t=some (.one (.fn gf [.own c 0 0])) /\
  (∀ x ∈ env0,x.1 ∉ p1 :: p2 :: (dsts assign ++ ds)) /\
  (∀ pre s,IA pre s -> s.env=env0 /\ s.obj c=.box [.dat (.sl 1 (zs.map encZ))] /\ s.noBal=true) /\
  Ent nf st s0 /\ IA [] s0 /\
  (∀ pre i z s,z ∈ zs -> pre.length < zs.length -> IA pre s -> bd (fun e s'=>e=.normal /\ ∃ s2,Ent nf s' s2 /\ IA (pre ++ [z]) s2) { s with env:=roundEnv p1 p2 cps i z env0 }) /\
  (∀ s,IA zs.reverse s -> Q .normal s)

def wpA (P:Program) (nf:Nat):Code -> (Exit -> St -> Prop) -> St -> Prop
 | .skip,Q,st=>Q .normal st
 | .label _,Q,st=>Q .normal st
 | .exit id,Q,st=>Q (.exit id) st
 | .ret,Q,st=>Q .ret st
 | .seq x y,Q,st=>wpA P nf x (fun e s=>match e with | .normal=>wpA P nf y Q s | e=>Q e s) st
 | .cond c x y,Q,st=>match opA st c with
  | some (p,.one (.dat (.bool b)))=>p /\ (b=true -> wpA P nf x Q st) /\ (b=false -> wpA P nf y Q st)
  | _=>False
 | .block id b,Q,st=>wpA P nf b (fun e s=>match e with | .exit i=>if i=id then Q .normal s else Q (.exit i) s | e=>Q e s) st
 | .loop b,Q,st=>∃ (I:Nat -> St -> Prop) (n:Nat) (s0:St),Ent nf st s0 /\ I n s0 /\
   ∀ n s,I n s -> wpA P nf b (fun e s'=>match e with | .normal=>∃ n' s'',n' < n /\ Ent nf s' s'' /\ I n' s'' | e=>Q e s') s
 | .region _ ops draw,Q,st=>if draw then drawZ P ops st (Q .normal) else regQ P ops ops.toList st (Q .normal)
 | .rangeFunc g ps assign body,Q,st=>RangeP P nf g ps assign (wpA P nf body) (dsts body) Q st
 | _,_,_=>False

def codeR (N:Nat):Code -> Bool
 | .skip=>true
 | .seq x y=>codeR N x && codeR N y
 | .block _ b=>codeR N b
 | .region _ ops draw=>(if draw then drawOk ops N else ops.toList.all fun o=>match o.dst with | some d=>decide (d < N) | none=>true) && ops.toList.all fun o=>match o.op with | .defer _=>false | _=>true
 | _=>false

def codeOk (N:Nat):Code -> Bool
 | .region _ ops draw=>if draw then drawOk ops N else ops.toList.all fun o=>match o.dst with | some d=>decide (d < N) | none=>true
 | .seq x y=>codeOk N x && codeOk N y
 | .cond _ x y=>codeOk N x && codeOk N y
 | .block _ b=>codeOk N b
 | .loop b=>codeOk N b
 | .skip=>true
 | .label _=>true
 | .exit _=>true
 | .ret=>true
 | .rangeFunc _ ps assign body=>ps.toList.all (fun p=>decide (p < N)) && (dsts assign).all (fun p=>decide (p < N)) && codeR N body
 | _=>false

theorem wpA_in (hm:P.follows .mixedOrders=true) (hB:B.n=nf) {l n:Nat} {T:Nat -> Prop} {a0:Act}:∀ (c:Code),codeR N c=true -> (∀ t ∈ dsts c,¬ T t) -> ∀ {QA:Exit -> St -> Prop} {Q:Exit -> Act -> World -> Prop} {st:St} {β:Nat -> Info} {φ:Nat -> List Nat} {a:Act} {w:World},
  SR B N st β φ a w -> wpA P nf c QA st -> (∀ t,T t -> a.tmps[t]?=a0.tmps[t]?) -> (∀ st' β φ a' w,SR B N st' β φ a' w -> QA .normal st' -> (∀ t,T t -> a'.tmps[t]?=a0.tmps[t]?) -> Q .normal a' w) -> c.wpIn (Fence.wide.inRound l) n P Q a w
 | .skip,_,_,_,_,_,_,_,_,_,h,hq,ha,hQ=>wpIn_skip (hQ _ _ _ _ _ h hq ha)
 | .seq x y,hok,hT,QA,Q,st,β,φ,a,w,h,hq,ha,hQ=>by
  simp only [codeR,Bool.and_eq_true] at hok
  refine wpIn_seq (wpA_in hm hB x hok.1 (fun t ht=>hT t (List.mem_append_left _ ht)) h hq ha fun st' β φ a' w sr hqa htr=>?_)
  exact wpA_in hm hB y hok.2 (fun t ht=>hT t (List.mem_append_right _ ht)) sr hqa htr hQ
 | .block id b,hok,hT,QA,Q,st,β,φ,a,w,h,hq,ha,hQ =>
  wpIn_block (wpA_in hm hB b hok hT h hq ha fun st' β φ a' w sr hqa htr=>hQ _ _ _ _ _ sr hqa htr)
 | .region id ops draw,hok,hT,QA,Q,st,β,φ,a,w,h,hq,ha,hQ=>by
  simp only [codeR,Bool.and_eq_true] at hok
  obtain ⟨hok,hdef⟩:=hok
  simp only [wpA] at hq
  have hR:RegW P id ops draw (fun e a' w'=>e=.normal /\ ∃ st' β φ,SR B N st' β φ a' w' /\ QA .normal st') a w:=by
   cases draw with
   | true =>
    simp only [if_true] at hok hq
    exact drawZ_wp hm hok (fun st' β φ a w sr hk=>⟨rfl,st',β,φ,sr,hk⟩) h hq
   | false =>
    simp only [Bool.false_eq_true,if_false] at hok hq
    refine region_wp (fun j o hj t ht=>?_) (fun st' β φ a w sr hk=>⟨rfl,st',β,φ,sr,hk⟩) h hq
    have:=List.all_eq_true.1 hok o (List.mem_of_getElem? (by simpa using hj))
    rw [ht] at this
    simpa using this
  refine wpIn_mono (hR.2 (fun ⟨_,_,e,_⟩=>by cases e) (fun i o ho c hc=>?_) l n T (fun i o t ho hd=>hT t (List.mem_filterMap.2 ⟨o,List.mem_of_getElem? (by simpa using ho),hd⟩))) ?_
  ·have:=List.all_eq_true.1 hdef o (List.mem_of_getElem? (by simpa using ho))
   rw [hc] at this
   cases this
  ·rintro e a' w' ⟨⟨rfl,st',β,φ,sr,hk⟩,htr⟩
   exact hQ _ _ _ _ _ sr hk (fun t ht=>(htr rfl t ht).trans (ha t ht))
 | .rangeFunc ..,hok,_,_,_,_,_,_,_,_,_,_,_,_=>by cases hok
 | .cond ..,hok,_,_,_,_,_,_,_,_,_,_,_,_=>by cases hok
 | .loop ..,hok,_,_,_,_,_,_,_,_,_,_,_,_=>by cases hok
 | .exit _,hok,_,_,_,_,_,_,_,_,_,_,_,_=>by cases hok
 | .label _,hok,_,_,_,_,_,_,_,_,_,_,_,_=>by cases hok
 | .ret,hok,_,_,_,_,_,_,_,_,_,_,_,_=>by cases hok
 | .scope _,hok,_,_,_,_,_,_,_,_,_,_,_,_=>by cases hok
 | .goto _,hok,_,_,_,_,_,_,_,_,_,_,_,_=>by cases hok
 | .refuse _,hok,_,_,_,_,_,_,_,_,_,_,_,_=>by cases hok

theorem roundAct_keep {p1 p2:Nat} {x y:Value} {t:Nat} (h1:t ≠ p1) (h2:t ≠ p2) (a:Act):∀ (cps:List (Nat × Bool)),(∀ c ∈ cps,t ≠ c.1) -> (roundAct p1 p2 cps a x y).tmps[t]?=a.tmps[t]?:=by
 have key:∀ (cps:List (Nat × Bool)) (a:Act),(∀ c ∈ cps,t ≠ c.1) -> (cps.foldl (fun a c=>a.put (some c.1) (if c.2 then y else x)) a).tmps[t]?=a.tmps[t]?:=by
  intro cps
  induction cps with
  | nil=>exact fun _ _=>rfl
  | cons c r ih =>
   intro a hc
   rw [List.foldl_cons,ih _ (fun c hm=>hc c (List.mem_cons_of_mem _ hm))]
   show (a.tmps.setIfInBounds _ _)[t]?=_
   exact Array.getElem?_setIfInBounds_ne (fun e=>hc c (List.mem_cons_self ..) e.symm)
 intro cps hc
 rw [roundAct,key cps _ hc]
 show ((a.tmps.setIfInBounds p1 x).setIfInBounds p2 y)[t]?=_
 rw [Array.getElem?_setIfInBounds_ne (fun e=>h2 e.symm),Array.getElem?_setIfInBounds_ne (fun e=>h1 e.symm)]

theorem round_SR {p1 p2:Nat} {cps:List (Nat × Bool)} (h:SR B N st β φ a w) (h1:p1 < N) (h2:p2 < N) (hc:∀ c ∈ cps,c.1 < N) (i z:Int) :
  SR B N { st with env:=roundEnv p1 p2 cps i z st.env } β φ (roundAct p1 p2 cps a (.int .i64 i) (.int .i64 z)) w:=by
 have hd:SR B N st β φ { a with defers:=[] } w:=⟨h.size,Marks.nil,h.env,h.dead,h.objs,h.nodup,h.disj,h.fp,h.frame,h.init⟩
 have hi:∀ (st:St) (k:Int),AVRel (st.ctx w β φ) (.one (.dat (.int .i64 k))) (.int .i64 k):=fun st k=>⟨[],.int ..,by simp⟩
 have key:∀ (cps:List (Nat × Bool)) (a:Act) (e:List (Nat × AV)),(∀ c ∈ cps,c.1 < N) -> SR B N { st with env:=e } β φ a w ->
   SR B N { st with env:=cps.foldl (fun e c=>(c.1,.one (.dat (.int .i64 (if c.2 then z else i)))) :: e) e } β φ (cps.foldl (fun a c=>a.put (some c.1) (if c.2 then .int .i64 z else .int .i64 i)) a) w:=by
  intro cps
  induction cps with
  | nil=>exact fun _ _ _ h=>h
  | cons c r ih =>
   intro a e hc h
   refine ih _ _ (fun c hm=>hc c (List.mem_cons_of_mem _ hm)) ?_
   have:=h.put (hc c (List.mem_cons_self ..)) (hi _ (if c.2 then z else i))
   have e:(if c.2=true then Value.int .i64 z else Value.int .i64 i)=Value.int .i64 (if c.2 then z else i):=by split <;> rfl
   rw [<- e] at this
   exact this
 exact key cps _ _ hc ((hd.put h1 (hi _ i)).put h2 (hi _ z))

theorem range_wp (hm:P.follows .mixedOrders=true) (hB:B.n=nf) {g:Operand} {ps:Array Tmp} {assign body:Code} (hok:codeOk N (.rangeFunc g ps assign body)=true) {QA:Exit -> St -> Prop} {Q:Exit -> Act -> World -> Prop}
  (h:SR B N st β φ a w) (hq:RangeP P nf g ps assign (wpA P nf body) (dsts body) QA st) (hQ:∀ e st' β φ a w,SR B N st' β φ a w -> QA e st' -> Q e a w):(Code.rangeFunc g ps assign body).wp P Q a w:=by
 obtain ⟨t,gf,c,p1,p2,cps,zs,env0,IA,s0,rfl,rfl,hasg,hcps,hback,hlen,hg,hdis,hIA,hent,h0,hround,hend⟩:=hq
 simp only [codeOk,Bool.and_eq_true,List.all_eq_true,decide_eq_true_eq] at hok
 obtain ⟨⟨hps,hda⟩,hbody⟩:=hok
 have hp1:p1 < N:=hps p1 (by simp)
 have hp2:p2 < N:=hps p2 (by simp)
 obtain ⟨β0,φ0,sr0⟩:=hent B N β φ a w hB h
 have hg0:find s0.env t=some (.one (.fn gf [.own c 0 0])):=by rw [(hIA _ _ h0).1];exact hg
 obtain ⟨bs,hval⟩:=fn_value sr0 hg0 (hIA _ _ h0).2.1
 have hrd0:Reads bs zs w:=Reads.of_SR sr0 hg0 (hIA _ _ h0).2.1 hval
 obtain ⟨Ds,hds,hnd,hDs⟩:=sr0.defers
 have nodef:∀ {st:St} {β:Nat -> Info} {φ:Nat -> List Nat} {w:World} {ds:List Deferred},SR B N st β φ a w -> SR B N st β φ { a with defers:=[] } w:=fun h=>⟨h.size,Marks.nil,h.env,h.dead,h.objs,h.nodup,h.disj,h.fp,h.frame,h.init⟩
 let I:List (Handed zs) -> World -> Prop:=fun pre W=>∃ s β φ,SR B N s β φ { a with defers:=[] } W /\ IA (came pre) s /\ (∀ o,∀ b ∈ φ o,isCellsAt W b=true) /\ ∀ D ∈ Ds,W.heap[D]?=some (.deferred (some []))
 have hReads:∀ pre W,I pre W -> Reads bs zs W:=fun pre W ⟨s,β,φ,sr,hia,_,_⟩ =>
  Reads.of_SR sr (by rw [(hIA _ _ hia).1];exact hg) (hIA _ _ hia).2.1 hval
 refine (wpIn_wide (n:=3)).1 (wpIn_rangeFunc_ownF (F:=Fence.wide) (n:=3) rfl (by omega) (gf:=gf) (lb:=#[.pointer (some ⟨bs,0,none⟩)]) hval trivial hback.1 (hback.2 2 bs zs w (by omega) hlen hrd0) (fun h1 h2 h=>h2 (h1 h))
  (fun W l o o' _ hl hc _ hr=>hr.sim (simOf_grown (grownBy_putObj' W l o') (fun r e=>by cases e;exact ⟨o,hl,hc⟩))) (Go.RowKit.Below.refl _ _) (fun _=>rfl) I (fun _ _ _=>False) ?hI (fun _ _ _ _ _ h _ _=>h) ?h0
  (fun x=>roundAct p1 p2 cps a (.int .i64 x.1) (.int .i64 x.2.1)) ?assign ?body ?done (fun _ _ _ _ _ _ h=>h.elim))
 case hI =>
  rintro pre W W' row ⟨s,β,φ,sr,hia,hcl,hD⟩ hgr hr
  have hcb:∀ o,∀ b ∈ φ o,W'.heap[b]?=W.heap[b]?:=fun o b hb=>hgr.block b (sr.fp o b hb).1 (fun e=>by
   obtain ⟨_,o',h1,h2⟩:=hr b e.symm
   have:=hcl o b hb
   unfold isCellsAt at this
   rw [h1] at this
   simp only at this
   rw [h2] at this
   cases this)
  refine ⟨s,β,φ,sr.sim (simOf_grown hgr (fun r e=>(hr r e).2)) ⟨hgr.os.trans sr.frame.os,hgr.tape.trans sr.frame.tape,hgr.output.trans sr.frame.output,Nat.le_trans sr.frame.size hgr.size,fun b hb hx=>?_⟩ hcb Marks.nil,hia,fun o b hb=>?_,fun D hDm=>?_⟩
  ·refine (hgr.block b (Nat.lt_of_lt_of_le hb sr.frame.size) (fun e=>?_)).trans (sr.frame.block b hb hx)
   have h1:=(hr b e.symm).1
   have h2:B.w.heap.size <= w.heap.size:=h.frame.size
   omega
  ·have:=hcl o b hb
   unfold isCellsAt at this ⊢
   rw [hcb o b hb];exact this
  ·refine (hgr.block D (lt_of_heap (hD D hDm)) (fun e=>?_)).trans (hD D hDm)
   have h1:=(hr D e.symm).1
   have h2:=lt_of_heap (hDs D hDm).1
   omega
 case h0=>exact ⟨s0,β0,_,nodef (ds:=[]) (sr0.cells (hIA _ _ h0).2.2),h0,fun o b hb=>(List.mem_filter.1 hb).2,fun D hD=>(hDs D hD).1⟩
 case assign =>
  intro l x W K hK
  have:=hasg l (3 - 1 - 1) a (.int .i64 x.1) (.int .i64 x.2.1) W K (by rw [h.size];exact hp1) (by rw [h.size];exact hp2) hK
  simpa [handed,Act.put] using this
 case body =>
  rintro l pre x W ⟨s,β1,φ1,sr,hia,hcl,hD⟩ hlt
  have srr:=round_SR (cps:=cps) sr.here hp1 hp2 (fun c hc=>hda _ (hcps c hc)) x.1 x.2.1
  have hq:=hround (came pre) x.1 x.2.1 s x.2.2 (by simpa [came] using hlt) hia
  rw [<- (hIA _ _ hia).1] at hq
  have hin:∀ {t:Nat} {v:AV},find env0 t=some v -> (t ≠ p1 /\ t ≠ p2) /\ t ∉ dsts assign /\ t ∉ dsts body:=fun hv=>by
   have:=hdis _ (mem_of_find hv)
   simp only [List.mem_cons,List.mem_append,not_or] at this
   exact ⟨⟨this.1,this.2.1⟩,this.2.2.1,this.2.2.2⟩
  refine wpA_in (l:=l) (n:=3 - 1 - 1) hm (B:=baseAt B W β1 φ1 sr.glob) hB (T:=fun t=>∃ v,find env0 t=some v) (a0:=roundAct p1 p2 cps a (.int .i64 x.1) (.int .i64 x.2.1)) body hbody (fun t ht ⟨v,hv⟩=>(hin hv).2.2 ht) srr hq (fun _ _=>rfl) fun st' β2 φ2 a' W' sr2 hqa htr=>?_
  obtain ⟨_,s2,hent2,hia2⟩:=hqa
  obtain ⟨β3,φ3,sr3⟩:=hent2 (baseAt B W β1 φ1 sr.glob) N β2 φ2 a' W' hB sr2
  have sr4:=sr3.cells (hIA _ _ hia2).2.2
  have hko:KeepsOthers W W':=⟨sr4.frame.size,fun k o hk hc=>(sr4.frame.block k (lt_of_heap hk) (fun ⟨o',ho'⟩=>by
   have:=hcl o' k ho'
   unfold isCellsAt at this
   rw [show W.heap[k]?=some o from hk] at this
   simp only at this
   rw [hc] at this
   cases this)).trans hk⟩
  have hI':I (pre ++ [x]) W':=by
   refine ⟨s2,β3,_,sr.back sr4 (a2:={ a with defers:=[] }) sr.size (fun t v hv=>?_) Marks.nil,by simpa [came] using hia2,fun o b hb=>(List.mem_filter.1 hb).2,fun D hDm=>hko.same D _ (hD D hDm) rfl⟩
   rw [(hIA _ _ hia2).1] at hv
   have hn:=hin hv
   rw [htr t ⟨v,hv⟩]
   exact (roundAct_keep hn.1.1 hn.1.2 a cps (fun c hc e=>hn.2.1 (e ▸ hcps c hc))).symm
  exact ⟨hko,fun _=>hReads _ _ hI',hI'⟩
 case done =>
  rintro D xs W hDw hS ⟨s,β1,φ1,sr,hia,hcl,hD⟩ hWD
  rw [hS] at hia
  refine hQ .normal s β1 φ1 _ W ⟨sr.size,⟨D :: Ds,by rw [hds];rfl,List.nodup_cons.2 ⟨fun hm=>?_,hnd⟩,fun D' hD'=>?_⟩,sr.env,sr.dead,sr.objs,sr.nodup,sr.disj,sr.fp,sr.frame,sr.init⟩ (hend s hia)
  ·have:=lt_of_heap (hDs D hm).1
   omega
  ·have hd':W.heap[D']?=some (.deferred (some [])) /\ B.w.heap.size <= D':=by
    rcases List.mem_cons.1 hD' with rfl | hD'
    ·exact ⟨hWD,Nat.le_trans h.frame.size hDw⟩
    ·exact ⟨hD D' hD',(hDs D' hD').2.1⟩
   refine ⟨hd'.1,hd'.2,fun o ho=>?_⟩
   have:=hcl o D' ho
   unfold isCellsAt at this
   rw [hd'.1] at this
   cases this

theorem wpA_wp (hm:P.follows .mixedOrders=true) (hB:B.n=nf):∀ (c:Code),codeOk N c=true -> ∀ {QA:Exit -> St -> Prop} {Q:Exit -> Act -> World -> Prop} {st:St} {β:Nat -> Info} {φ:Nat -> List Nat} {a:Act} {w:World},
  SR B N st β φ a w -> wpA P nf c QA st -> (∀ e st' β φ a w,SR B N st' β φ a w -> QA e st' -> Q e a w) -> c.wp P Q a w
 | .skip,_,_,_,_,_,_,_,_,h,hq,hQ=>wp_skip (hQ _ _ _ _ _ _ h hq)
 | .label _,_,_,_,_,_,_,_,_,h,hq,hQ=>wp_label (hQ _ _ _ _ _ _ h hq)
 | .exit _,_,_,_,_,_,_,_,_,h,hq,hQ=>wp_exit (hQ _ _ _ _ _ _ h hq)
 | .ret,_,_,_,_,_,_,_,_,h,hq,hQ=>wp_ret (hQ _ _ _ _ _ _ h hq)
 | .seq x y,hok,QA,Q,st,β,φ,a,w,h,hq,hQ=>by
  simp only [codeOk,Bool.and_eq_true] at hok
  refine wp_seq (wpA_wp hm hB x hok.1 h hq fun e st' β φ a w sr hqa=>?_)
  cases e with
  | normal=>exact wpA_wp hm hB y hok.2 sr hqa hQ
  | exit id=>exact hQ _ _ _ _ _ _ sr hqa
  | goto l=>exact hQ _ _ _ _ _ _ sr hqa
  | ret=>exact hQ _ _ _ _ _ _ sr hqa
  | panic ch=>exact hQ _ _ _ _ _ _ sr hqa
  | outgrown=>exact hQ _ _ _ _ _ _ sr hqa
 | .cond c x y,hok,QA,Q,st,β,φ,a,w,h,hq,hQ=>by
  simp only [codeOk,Bool.and_eq_true] at hok
  simp only [wpA] at hq
  split at hq
  ·rename_i p b ec
   obtain ⟨S,hr,_⟩:=opA_sound h ec hq.1
   have hb:a.eval c=.bool b:=by
    generalize a.eval c=x at hr ⊢
    cases hr
    rfl
   cases b with
   | true=>exact wp_cond_true hb (wpA_wp hm hB x hok.1 h (hq.2.1 rfl) hQ)
   | false=>exact wp_cond_false hb (wpA_wp hm hB y hok.2 h (hq.2.2 rfl) hQ)
  ·exact hq.elim
 | .block id b,hok,QA,Q,st,β,φ,a,w,h,hq,hQ=>by
  refine wp_block (wpA_wp hm hB b hok h hq fun e st' β φ a w sr hqa=>?_)
  cases e with
  | normal=>exact hQ _ _ _ _ _ _ sr hqa
  | exit i =>
   simp only [Exit.inBlock]
   dsimp only at hqa
   split at hqa
   ·rename_i e;rw [if_pos e];exact hQ _ _ _ _ _ _ sr hqa
   ·rename_i e;rw [if_neg e];exact hQ _ _ _ _ _ _ sr hqa
  | goto l=>exact hQ _ _ _ _ _ _ sr hqa
  | ret=>exact hQ _ _ _ _ _ _ sr hqa
  | panic ch=>exact hQ _ _ _ _ _ _ sr hqa
  | outgrown=>exact hQ _ _ _ _ _ _ sr hqa
 | .loop b,hok,QA,Q,st,β,φ,a,w,h,hq,hQ=>by
  obtain ⟨I,n,s0,hent,hI,hround⟩:=hq
  obtain ⟨β',φ',sr0⟩:=hent B N β φ a w hB h
  refine wp_loop_ghost (fun n a w=>∃ s β φ,SR B N s β φ a w /\ I n s) n ⟨s0,β',φ',sr0,hI⟩ fun n a w ⟨s,β,φ,sr,hI⟩=>?_
  refine wpA_wp hm hB b hok sr (hround n s hI) fun e st' β φ a w sr hqa=>?_
  cases e with
  | normal =>
   obtain ⟨n',s'',hlt,hent,hI'⟩:=hqa
   obtain ⟨β',φ',sr'⟩:=hent B N β φ a w hB sr
   exact ⟨n',hlt,s'',β',φ',sr',hI'⟩
  | exit id=>exact hQ _ _ _ _ _ _ sr hqa
  | goto l=>exact hQ _ _ _ _ _ _ sr hqa
  | ret=>exact hQ _ _ _ _ _ _ sr hqa
  | panic ch=>exact hQ _ _ _ _ _ _ sr hqa
  | outgrown=>exact hQ _ _ _ _ _ _ sr hqa
 | .region id ops draw,hok,QA,Q,st,β,φ,a,w,h,hq,hQ=>by
  simp only [codeOk] at hok
  simp only [wpA] at hq
  cases draw with
  | true =>
   simp only [if_true] at hok hq
   exact (drawZ_wp hm hok (fun st' β φ a w sr hk=>hQ .normal st' β φ a w sr hk) h hq).1
  | false =>
   simp only [Bool.false_eq_true,if_false] at hok hq
   refine (region_wp (fun j o hj t ht=>?_) (fun st' β φ a w sr hk=>hQ .normal st' β φ a w sr hk) h hq).1
   have:=List.all_eq_true.1 hok o (List.mem_of_getElem? (by simpa using hj))
   rw [ht] at this
   simpa using this
 | .rangeFunc g ps assign body,hok,QA,Q,st,β,φ,a,w,h,hq,hQ=>range_wp hm hB hok h hq hQ
 | .scope _,hok,_,_,_,_,_,_,_,_,_,_=>by cases hok
 | .goto _,hok,_,_,_,_,_,_,_,_,_,_=>by cases hok
 | .refuse _,hok,_,_,_,_,_,_,_,_,_,_=>by cases hok

def resA (P:Program) (st:St):List ResultVar -> Option (Prop × List AV)
 | []=>some (True,[])
 | .tmp t :: r=>match find st.env t,resA P st r with
  | some v,some (q,vs)=>if v.isPV then some (q,v :: vs) else none
  | _,_=>none
 | .cell x t :: r=>match find st.env x,tl P t,resA P st r with
  | some (.one (.ptr p)),some (agg,s),some (q,vs)=>if agg || decide (s=1) then match ldp st agg s p with
    | some (q',v)=>some (q' /\ q,v :: vs)
    | none=>none
   else none
  | _,_,_=>none

def packA:List AV -> AV
 | [v]=>v
 | vs=>.tup vs

def Fin (P:Program) (fn:Func) (nf:Nat) (r:AV) (objs':List AObj) (st:St):Prop :=
 ∃ st1,Ent nf st st1 /\ ∃ q rs ids,resA P st1 fn.results.toList=some (q,rs) /\ q /\ packA rs=r.renF ids /\ Weaker nf st1 ids [] objs'

def resOne (tmps:Array Value):ResultVar -> Sem Value
 | .tmp t=>pure (tmps.getD t undef)
 | .cell x t=>do loadVar t (<- asAddr (tmps.getD x undef))

theorem resA_sound (h:SR B N st β φ a w):∀ {rs:List ResultVar} {q:Prop} {vs:List AV},resA P st rs=some (q,vs) -> q -> ∃ xs:List Value,xs.length=vs.length /\
  (rs.mapM (resOne a.tmps)).run P w=.ok xs w /\
  ∀ (k:Nat) (v:AV),vs[k]?=some v -> ∃ x,xs[k]?=some x /\ PVRel (st.ctx w β φ) v x
 | [],_,_,hs,_=>by
  simp only [resA,Option.some.injEq,Prod.mk.injEq] at hs
  obtain ⟨rfl,rfl⟩:=hs
  exact ⟨[],rfl,by simp,fun k v hk=>by simp at hk⟩
 | .tmp t :: r,_,_,hs,hq=>by
  simp only [resA] at hs
  split at hs
  ·rename_i v q vs e1 e2
   split at hs
   ·rename_i hpv
    simp only [Option.some.injEq,Prod.mk.injEq] at hs
    obtain ⟨rfl,rfl⟩:=hs
    obtain ⟨xs,g1,g2,g3⟩:=resA_sound h e2 hq
    refine ⟨a.tmps.getD t undef :: xs,by simp [g1],?_,fun k u hk=>?_⟩
    ·rw [List.mapM_cons]
     simp only [resOne,Sem.run_bind,Sem.run_pure,Result.andThen_ok,g2]
    ·cases k with
     | zero=>simp at hk;subst hk;exact ⟨_,rfl,AV.pv hpv (h.env t _ e1).2⟩
     | succ k=>simp at hk;simpa using g3 k u (by simpa using hk)
   ·cases hs
  ·cases hs
 | .cell x t :: r,_,_,hs,hq=>by
  simp only [resA] at hs
  split at hs
  ·rename_i p agg s q vs e1 e2 e3
   split at hs
   ·rename_i hc
    split at hs
    ·rename_i q' v el
     simp only [Option.some.injEq,Prod.mk.injEq] at hs
     obtain ⟨rfl,rfl⟩:=hs
     obtain ⟨xs,g1,g2,g3⟩:=resA_sound h e3 hq.2
     obtain ⟨ad,had,hat⟩:=ldp_sound h (h.env x _ e1).2 (fun ha=>by subst ha;simpa using hc) el hq.1
     obtain ⟨z,hz,hr⟩:=run_at (P:=P) e2 hat
     have hz':(loadVar t ad).run P w=.ok z w:=hz
     refine ⟨z :: xs,by simp [g1],?_,fun k u hk=>?_⟩
     ·rw [List.mapM_cons]
      simp only [resOne,Sem.run_bind,Sem.run_pure,Result.andThen_ok,had,asAddr,hz',g2]
     ·cases k with
      | zero=>simp at hk;subst hk;exact ⟨_,rfl,hr⟩
      | succ k=>simp at hk;simpa using g3 k u (by simpa using hk)
    ·cases hs
   ·cases hs
  ·cases hs

def argEnv:Nat -> List AV -> List (Nat × AV)
 | _,[]=>[]
 | k,v :: vs=>(k,v) :: argEnv (k + 1) vs

theorem find_argEnv:∀ (vs:List AV) (k t:Nat) (v:AV),find (argEnv k vs) t=some v -> k <= t /\ vs[t - k]?=some v
 | [],_,_,_,h=>by cases h
 | u :: vs,k,t,v,h=>by
  simp only [argEnv,find] at h
  split at h
  ·rename_i e;cases h;subst e;exact ⟨Nat.le_refl _,by simp⟩
  ·rename_i e
   obtain ⟨h1,h2⟩:=find_argEnv vs (k + 1) t v h
   exact ⟨by omega,by rw [show t - k=(t - (k + 1)) + 1 from by omega,List.getElem?_cons_succ];exact h2⟩

theorem calls_of_bodyN {f:FuncId} {fn:Func} {c:Code} {as:List AV} {objs:List AObj} {R:AV -> List AObj -> Prop} (hm:P.follows .mixedOrders=true) (hf:P.funcs[f]?=some fn) (hb:fn.body=some c) (hok:codeOk fn.ntmps c=true)
  (hn:as.length <= fn.ntmps)
  {QA:Exit -> St -> Prop} (hQA:∀ e st,QA e st -> (e=.normal \/ e=.ret) /\ ∃ r objs',R r objs' /\ LowAll [] objs' /\ r.Low objs'.length /\ Fin P fn objs.length r objs' st) (hbody:wpA P objs.length c QA (mkSt (argEnv 0 as) objs)) (w:World) (β:Nat -> Info) (φ:Nat -> List Nat) (vs:Array Value) (hOR:OR w β φ objs) (hargs:ArgsRel (lctx w β φ objs) as vs) :
  Calls P f vs w fun e w'=>∃ r objs',R r objs' /\ ∃ v β' φ',e=.returned v /\ OR w' β' φ' objs' /\ (∀ o,o < objs.length -> β' o=β o) /\ (∀ o,∀ b ∈ φ' o,w.heap.size <= b \/ ∃ o1,b ∈ φ o1) /\
   AVRel (lctx w' β' φ' objs') r v /\ Frm w (fun b=>∃ o,b ∈ φ o) w':=by
 obtain ⟨hasz,hag⟩:=hargs
 have hctx:∀ (env:List (Nat × AV)) (os:List AObj) (w:World) (β:Nat -> Info) (φ:Nat -> List Nat),(mkSt env os).ctx w β φ=lctx w β φ os:=fun env os w β φ=>by
  show Ctx.mk w β (mkSt env os).obj _ _=_
  rw [show (mkSt env os).obj=Objs os from funext fun k=>mkSt_obj env os k]
  rfl
 refine (callsIn_wide (n:=0)).1 (callsIn_of_wp_marks hf hb trivial (wpIn_wide.2 ?_) rfl)
 let B:Base:=⟨w,fun b=>∃ o,b ∈ φ o,objs.length,β,hOR.glob⟩
 let a:Act:={ tmps:=vs ++ Array.replicate (fn.ntmps - vs.size) undef,defers:=[] }
 have sr:SR B fn.ntmps (mkSt (argEnv 0 as) objs) β φ a w:=by
  refine ⟨by simp [a];omega,Marks.nil,fun t v hv=>?_,fun o ho=>?_,fun o=>?_,hOR.nodup,hOR.disj,fun o b hb=>⟨hOR.fp o b hb,.inl ⟨o,hb⟩⟩,Frm.refl _ _,⟨Nat.le_refl _,fun _ _=>rfl⟩⟩
  ·obtain ⟨_,h2⟩:=find_argEnv as 0 t v hv
   rw [Nat.sub_zero] at h2
   have htl:=(List.getElem?_eq_some_iff.1 h2).1
   obtain ⟨x,hx,hr⟩:=hag t v h2
   refine ⟨by omega,?_⟩
   rw [hctx]
   have:a.tmps.getD t undef=x:=by
    rw [Array.getD_eq_getD_getElem?]
    show ((vs ++ Array.replicate (fn.ntmps - vs.size) undef)[t]?).getD undef=x
    rw [Array.getElem?_append_left (by omega),hx]
    rfl
   rw [this]
   exact hr
  ·rw [mkSt_obj]
   have ho':objs.length <= o:=ho
   rw [List.getD_eq_getElem?_getD,List.getElem?_eq_none ho']
   rfl
  ·rw [hctx];exact hOR.objs o
 refine wpA_wp (B:=B) (N:=fn.ntmps) hm rfl c hok sr hbody fun e st0 β0 φ0 a1 w1 sr0 hq=>?_
 obtain ⟨he,r,objs',hR,hlow,hlowr,st',hent,q,rs,ids,hres,hq,hpack,hweak⟩:=hQA _ _ hq
 obtain ⟨β1,φ1,sr1⟩:=hent B fn.ntmps β0 φ0 a1 w1 rfl sr0
 have key:∀ (a1:Act) (w1:World),SR B fn.ntmps st' β1 φ1 a1 w1 -> ∃ v,(results fn a1.tmps).run P w1=.ok v w1 /\ ∃ r objs',R r objs' /\ ∃ v' β' φ',Ending.returned v=.returned v' /\ OR w1 β' φ' objs' /\ (∀ o,o < objs.length -> β' o=β o) /\ (∀ o,∀ b ∈ φ' o,w.heap.size <= b \/ ∃ o1,b ∈ φ o1) /\
   AVRel (lctx w1 β' φ' objs') r v' /\ Frm w (fun b=>∃ o,b ∈ φ o) w1:=by
  clear sr1 sr0
  intro a1 w1 sr1
  obtain ⟨xs,g1,g2,g3⟩:=resA_sound (P:=P) sr1 hres hq
  obtain ⟨β2,φ2,sr2,hβ2,hc2⟩:=weaker_SR hweak hlow rfl sr1
  have hrun:(results fn a1.tmps).run P w1=.ok (if h:xs.toArray.size=1 then xs.toArray[0] else .tuple xs.toArray) w1:=by
   have:(fn.results.mapM (resOne a1.tmps)).run P w1=.ok xs.toArray w1:=by
    rw [Array.mapM_eq_mapM_toList]
    simp only [Sem.run_map,g2,Result.andThen_ok]
   have hres:results fn a1.tmps=(do let vs <- fn.results.mapM (resOne a1.tmps);pure (if h:vs.size=1 then vs[0] else .tuple vs)):=by
    unfold results
    congr 1
   rw [hres,Sem.run_bind,this]
   rfl
  have hrel:AVRel (st'.ctx w1 β1 φ1) (packA rs) (if h:xs.toArray.size=1 then xs.toArray[0] else .tuple xs.toArray):=by
   by_cases h1:xs.length=1
   ·obtain ⟨x,rfl⟩:∃ x,xs=[x]:=by
     match xs,h1 with
     | [x],_=>exact ⟨x,rfl⟩
    obtain ⟨v,rfl⟩:∃ v,rs=[v]:=by
     match rs,g1 with
     | [v],_=>exact ⟨v,rfl⟩
    obtain ⟨x',hx',hr⟩:=g3 0 v rfl
    cases hx'
    have hp:AVRel (st'.ctx w1 β1 φ1) v x:=by
     cases v with
     | one l=>exact hr
     | agg ls=>exact hr
     | tup vs=>exact hr.elim
     | ifg b v=>exact hr.elim
    simpa [packA] using hp
   ·have hne:¬ xs.toArray.size=1:=by simpa using h1
    rw [dif_neg hne]
    have hpk:packA rs=.tup rs:=by
     unfold packA
     split
     ·simp at g1;exact absurd g1 h1
     ·rfl
    rw [hpk]
    exact ⟨xs.toArray,rfl,by simpa using g1,fun j v hj=>by obtain ⟨x,hx,hr⟩:=g3 j v hj;exact ⟨x,by simpa using hx,hr⟩⟩
  have hfinal:∃ r objs',R r objs' /\ ∃ v β' φ',Ending.returned (if h:xs.toArray.size=1 then xs.toArray[0] else .tuple xs.toArray)=.returned v /\ OR w1 β' φ' objs' /\ (∀ o,o < objs.length -> β' o=β o) /\ (∀ o,∀ b ∈ φ' o,w.heap.size <= b \/ ∃ o1,b ∈ φ o1) /\
    AVRel (lctx w1 β' φ' objs') r v /\ Frm w (fun b=>∃ o,b ∈ φ o) w1:=by
   refine ⟨r,objs',hR,_,β2,φ2,rfl,⟨fun o=>by rw [<- hctx []];exact sr2.objs o,sr2.nodup,sr2.disj,fun o b hb=>(sr2.fp o b hb).1,sr2.glob⟩,fun o ho=>sr2.init.2 o ho,fun o b hb=>(sr2.fp o b hb).2.symm,?_,sr2.frame⟩
   rw [<- hctx [],hc2]
   rw [hpack] at hrel
   exact av_ren hweak.2.2.2.1 hlowr hrel
  exact ⟨_,hrun,hfinal⟩
 obtain ⟨Ds,hds,hnd,hDs⟩:=sr1.defers
 have hleave:LeavesInM Fence.wide 0 P fn a1.tmps (fun e w'=>∃ r objs',R r objs' /\ ∃ v β' φ',e=.returned v /\ OR w' β' φ' objs' /\ (∀ o,o < objs.length -> β' o=β o) /\ (∀ o,∀ b ∈ φ' o,w.heap.size <= b \/ ∃ o1,b ∈ φ o1) /\
   AVRel (lctx w' β' φ' objs') r v /\ Frm w (fun b=>∃ o,b ∈ φ o) w') a1.defers .returning w1:=by
  rw [hds]
  refine leaves_marks Ds w1 hnd (fun D hD=>(hDs D hD).1) fun w' f1 f2 f3 f4 f5=>?_
  refine key { a1 with defers:=[] } w' (SR.sim (a:={ a1 with defers:=[] }) ⟨sr1.size,Marks.nil,sr1.env,sr1.dead,sr1.objs,sr1.nodup,sr1.disj,sr1.fp,sr1.frame,sr1.init⟩ ⟨Nat.le_of_eq f1.symm,fun k o hk hc=>(f2 k (fun hm=>?_)).trans hk⟩
   ⟨f3.trans sr1.frame.os,f4.trans sr1.frame.tape,f5.trans sr1.frame.output,by rw [f1];exact sr1.frame.size,fun b hb hx=>(f2 b (fun hm=>?_)).trans (sr1.frame.block b hb hx)⟩ (fun o b hb=>f2 b (fun hm=>(hDs b hm).2.2 o hb)) Marks.nil)
  ·have:=(hDs k hm).1
   rw [hk] at this
   cases this
   cases hc
  ·have:=(hDs b hm).2.1
   omega
 rcases he with rfl | rfl
 ·exact hleave
 ·exact hleave

theorem calls_of_body {f:FuncId} {fn:Func} {c:Code} {as:List AV} {objs:List AObj} {r:AV} {objs':List AObj} (hm:P.follows .mixedOrders=true) (hf:P.funcs[f]?=some fn) (hb:fn.body=some c) (hok:codeOk fn.ntmps c=true)
  (hn:as.length <= fn.ntmps) (hlow:LowAll [] objs') (hlowr:r.Low objs'.length)
  (hbody:wpA P objs.length c (fun e st=>(e=.normal \/ e=.ret) /\ Fin P fn objs.length r objs' st) (mkSt (argEnv 0 as) objs)) (w:World) (β:Nat -> Info) (φ:Nat -> List Nat) (vs:Array Value) (hOR:OR w β φ objs) (hargs:ArgsRel (lctx w β φ objs) as vs) :
  Calls P f vs w fun e w'=>∃ v β' φ',e=.returned v /\ OR w' β' φ' objs' /\ (∀ o,o < objs.length -> β' o=β o) /\ (∀ o,∀ b ∈ φ' o,w.heap.size <= b \/ ∃ o1,b ∈ φ o1) /\
   AVRel (lctx w' β' φ' objs') r v /\ Frm w (fun b=>∃ o,b ∈ φ o) w':=by
 refine (calls_of_bodyN (R:=fun r' o'=>r'=r /\ o'=objs') hm hf hb hok hn (fun e st h=>⟨h.1,r,objs',⟨rfl,rfl⟩,hlow,hlowr,h.2⟩) hbody w β φ vs hOR hargs).mono ?_
 rintro e w' ⟨_,_,⟨rfl,rfl⟩,h⟩
 exact h

def FinR (P:Program) (fn:Func) (objs:List AObj) (R:AV -> List AObj -> Prop):Exit -> St -> Prop:=fun e st =>
 (e=.normal \/ e=.ret) /\ ∃ r objs',R r objs' /\ objs.length <= objs'.length /\ (∀ o,o < objs.length -> Compat (Objs objs o) (Objs objs' o)) /\ LowAll [] objs' /\ r.Low objs'.length /\ Fin P fn objs.length r objs' st

theorem CtrW.of_body {f:FuncId} {fn:Func} {c:Code} {as:List AV} {objs:List AObj} {R:AV -> List AObj -> Prop} (hm:P.follows .mixedOrders=true) (hf:P.funcs[f]?=some fn) (hb:fn.body=some c) (hok:codeOk fn.ntmps c=true)
  (hn:as.length <= fn.ntmps) (hbody:wpA P objs.length c (FinR P fn objs R) (mkSt (argEnv 0 as) objs)):CtrW P f as objs R :=
 ⟨fun w β φ vs hOR hargs=>(calls_of_bodyN (R:=fun r objs'=>R r objs' /\ objs.length <= objs'.length /\ ∀ o,o < objs.length -> Compat (Objs objs o) (Objs objs' o)) hm hf hb hok hn
  (fun e st ⟨h1,r,objs',h2,h3,h4,h5,h6,h7⟩=>⟨h1,r,objs',⟨h2,h3,h4⟩,h5,h6,h7⟩) hbody w β φ vs hOR hargs).mono fun e w' ⟨r,objs',⟨h2,h3,h4⟩,h⟩=>⟨r,objs',h2,h3,h4,h⟩⟩

theorem Ctr.of_body {f:FuncId} {fn:Func} {c:Code} {as:List AV} {objs:List AObj} {r:AV} {objs':List AObj} (hm:P.follows .mixedOrders=true) (hf:P.funcs[f]?=some fn) (hb:fn.body=some c) (hok:codeOk fn.ntmps c=true)
  (hn:as.length <= fn.ntmps) (hclean:r.Clean) (hsep:∀ x ∈ objs',x.Sep) (hlen:objs.length <= objs'.length) (hcomp:∀ o,o < objs.length -> Compat (Objs objs o) (Objs objs' o)) (hlowr:r.Low objs'.length)
  (hbody:wpA P objs.length c (fun e st=>(e=.normal \/ e=.ret) /\ Fin P fn objs.length r objs' st) (mkSt (argEnv 0 as) objs)):Ctr P f as objs r objs':=by
 have hlow:LowAll [] objs':=⟨by simp,fun x hx=>by
  have:=hsep x hx
  cases x with
  | dead=>trivial
  | vec sz sep rows=>trivial
  | hole=>exact this.elim
  | pin _ _=>exact this.elim
  | ballast _=>exact this.elim
  | box c=>exact this.elim
  | frz sz rows=>trivial
  | wide sz n rows=>exact this.elim⟩
 exact ⟨hclean,hsep,hlen,hcomp,calls_of_body hm hf hb hok hn hlow hlowr hbody⟩
end
end Go.Abs
