/- Stores, new slices and literals on abstract states. -/
import Derived.Test.YtcnddedeeplbcaaGreatAbsHeap
namespace Go.Abs
set_option linter.unusedVariables false

def zleaf:D -> Leaf
 | .sl _ []=>.emp
 | d=>.dat d

def killAll (st:St):List Nat -> St
 | []=>st
 | o :: r=>killAll (st.setObj o .dead) r

def storeS (P:Program) (st:St) (t:TypeId):AV -> AV -> Out
 | .one (.ptr (.own o i j)),v=>match v.leaves,tl P t with
  | some ls,some (agg,s)=>match st.obj o with
   | .box cells=>some (ls.length=s /\ j + s <= cells.length,none,st.setObj o (.box (splice cells j ls)))
   | .vec sz true rows=>match tz P t with
    | some zs=>match sepLeaves st zs ls with
     | some (q,ds,[])=>some (q /\ ls.length=s /\ i < rows.length /\ j + s <= sz,none,
       st.setObj o (.vec sz true (rows.set i (if j=0 /\ s=sz then ds else splice (rows.getD i []) j ds))))
     | some (q,ds,k :: ks)=>some (q /\ (k :: ks).Nodup /\ o ∉ k :: ks /\ ls.length=s /\ i < rows.length /\ j + s <= sz,none,
       (killAll st (k :: ks)).setObj o (.vec sz true (rows.set i (if j=0 /\ s=sz then ds else splice (rows.getD i []) j ds))))
     | _=>none
    | none=>none
   | _=>none
  | _,_=>none
 | _,_=>none

def allocS (P:Program) (st:St) (t:TypeId):Out :=
 match tz P t with
 | some ds=>some (True,some (.one (.ptr (.own st.next 0 0))),st.addObj (.box (ds.map zleaf)))
 | none=>none

def boxS (P:Program) (st:St) (t:TypeId) (v:AV):Out :=
 match v.leaves with
 | some ls=>some (True,some (.one (.ptr (.own st.next 0 0))),st.addObj (.box ls))
 | none=>none

def makeS (P:Program) (st:St) (t:TypeId):AV -> AV -> Out
 | .one (.dat (.int _ l)),.one (.dat (.int _ c))=>match te P t with
  | some (e,s,y)=>match tz P e with
   | some zs=>some (l=c /\ 0 <= l /\ (y:Int) * l <= 281474976710656 /\ l <= 9223372036854775807 /\ zs.length=s,
     some (.one (.own st.next)),st.addObj (.vec s true (List.replicate l.toNat zs)))
   | none=>none
  | none=>none
 | _,_=>none

theorem killAll_env:∀ (ks:List Nat) (st:St),(killAll st ks).env=st.env
 | [],_=>rfl
 | o :: r,st=>killAll_env r (st.setObj o .dead)
theorem killAll_next:∀ (ks:List Nat) (st:St),(killAll st ks).next=st.next
 | [],_=>rfl
 | o :: r,st=>killAll_next r (st.setObj o .dead)
theorem killAll_dead:∀ (ks:List Nat) (st:St) (o:Nat),st.obj o=.dead -> (killAll st ks).obj o=.dead
 | [],_,_,h=>h
 | k :: r,st,o,h=>killAll_dead r (st.setObj k .dead) o (by
   by_cases e:o=k
   ·subst e;exact St.obj_setObj_same st o _
   ·rw [St.obj_setObj_ne st _ e];exact h)
theorem killAll_in:∀ (ks:List Nat) (st:St) (o:Nat),o ∈ ks -> (killAll st ks).obj o=.dead
 | k :: r,st,o,h=>by
  cases h with
  | head=>exact killAll_dead r _ _ (St.obj_setObj_same st k _)
  | tail _ h=>exact killAll_in r _ _ h
theorem killAll_out:∀ (ks:List Nat) (st:St) (o:Nat),o ∉ ks -> (killAll st ks).obj o=st.obj o
 | [],_,_,_=>rfl
 | k :: r,st,o,h=>by
  have h1:o ≠ k:=fun e=>h (e ▸ List.mem_cons_self ..)
  have h2:o ∉ r:=fun e=>h (List.mem_cons_of_mem _ e)
  exact (killAll_out r (st.setObj k .dead) o h2).trans (St.obj_setObj_ne st _ h1)

section
variable {P:Program} {B:Base} {N:Nat} {st st':St} {β:Nat -> Info} {φ:Nat -> List Nat} {a:Act} {w:World}

def ResM (P:Program) (B:Base) (N:Nat) (st st':St) (β:Nat -> Info) (φ:Nat -> List Nat) (a:Act) (w:World) (r:Option AV) (m:Sem Value):Prop :=
 ∃ β' φ' w',(st.ctx w β φ).Le (st'.ctx w' β' φ') /\ SR B N st' β' φ' a w' /\ st'.env=st.env /\ ∃ r' z,r=some r' /\ m.run P w=.ok z w' /\ AVRel (st'.ctx w' β' φ') r' z

def ResU (P:Program) (B:Base) (N:Nat) (st st':St) (β:Nat -> Info) (φ:Nat -> List Nat) (a:Act) (w:World) (r:Option AV) (m:Sem Unit):Prop :=
 ∃ β' φ' w',(st.ctx w β φ).Le (st'.ctx w' β' φ') /\ SR B N st' β' φ' a w' /\ st'.env=st.env /\ r=none /\ m.run P w=.ok () w'

theorem zleaf_rel {C:Ctx} {d:D} {v:Value} (h:zmatch d v=true):LeafRel C (zleaf d) v:=by
 unfold zleaf
 split
 ·rename_i sz
  unfold zmatch at h
  split at h <;> first | (exact ⟨none,rfl⟩) | (cases h;done) | (rename_i e;cases e)
 ·exact ⟨[],zmatch_rep h,by simp⟩

theorem zleaves {C:Ctx}:∀ {ds:List D} {vs:List Value},zmatchL ds vs=true -> Leaves C (ds.map zleaf) vs
 | [],[],_=>Leaves.nil
 | d :: ds,v :: vs,h=>by
  simp only [zmatchL,Bool.and_eq_true] at h
  have:=(Leaves.single (C:=C) (zleaf_rel h.1)).append (zleaves h.2)
  simpa using this
 | [],_ :: _,h=>by simp [zmatchL] at h
 | _ :: _,[],h=>by simp [zmatchL] at h

theorem allocS_sound (h:SR B N st β φ a w) {t:TypeId} {q:Prop} {r:Option AV} (hs:allocS P st t=some (q,r,st')) (hq:q) :
  ResM P B N st st' β φ a w r (Instr.alloc t true (.tuple #[])):=by
 unfold allocS at hs
 split at hs
 ·rename_i ds e
  simp only [Option.some.injEq,Prod.mk.injEq] at hs
  obtain ⟨rfl,rfl,rfl⟩:=hs
  obtain ⟨i,v,hi,hv,_,hsz,hr⟩:=tz_spec (w:=w) e
  obtain ⟨β',φ',le,sr,hp⟩:=h.newBox (vs:=v.cells) (T:=t) (zleaves (C:=st.ctx w β φ) hr)
  exact ⟨β',φ',_,le,sr,rfl,_,_,rfl,by simp [Instr.alloc,zeroValue,typeInfo,hi,hv,newVar,newRow],hp⟩
 ·cases hs

theorem allocAt (h:SR B N st β φ a w) {t:TypeId} {ds:List D} (hz:tz P t=some ds) {id:Nat} (hid:id < st.next) (hB:B.n <= id) (hh:st.obj id=.hole) :
  ∃ β' φ' w' z,SR B N (st.setObj id (.box (ds.map zleaf))) β' φ' a w' /\ (Instr.alloc t true (.tuple #[])).run P w=.ok z w' /\ AVRel ((st.setObj id (.box (ds.map zleaf))).ctx w' β' φ') (.one (.ptr (.own id 0 0))) z:=by
 obtain ⟨i,v,hi,hv,_,hsz,hr⟩:=tz_spec (w:=w) hz
 have hl:=zleaves (C:=st.ctx w β φ) hr
 have hb:∀ b ∈ [w.heap.size],b < (w.alloc (.cells v.cells t)).heap.size /\ w.heap.size <= b:=by simp
 obtain ⟨le,sr⟩:=h.bring (w':=w.alloc (.cells v.cells t)) (.box (ds.map zleaf)) ⟨some ⟨w.heap.size,0,none⟩,0⟩ [w.heap.size] hid hB hh ((Frm.refl w _).alloc _) hb (by simp) (fun le=>by
  unfold ObjRel
  rw [show ((st.setObj id (.box (ds.map zleaf))).ctx (w.alloc (.cells v.cells t)) (upd β id ⟨some ⟨w.heap.size,0,none⟩,0⟩) (upd φ id [w.heap.size])).ob id=.box (ds.map zleaf) from St.obj_setObj_same st _ _]
  exact ⟨w.heap.size,t,v.cells,by show (upd β id _ id).base=_;rw [upd_same],upd_same ..,heap_alloc_new ..,hl.mono le⟩)
 refine ⟨_,_,w.alloc (.cells v.cells t),.pointer (some ⟨w.heap.size,0,none⟩),sr,by simp [Instr.alloc,zeroValue,typeInfo,hi,hv,newVar,newRow],⟨hid,?_⟩⟩
 rw [show ((st.setObj id (.box (ds.map zleaf))).ctx (w.alloc (.cells v.cells t)) (upd β id ⟨some ⟨w.heap.size,0,none⟩,0⟩) (upd φ id [w.heap.size])).ob id=.box (ds.map zleaf) from St.obj_setObj_same st _ _]
 exact ⟨w.heap.size,by show (upd β id _ id).base=_;rw [upd_same],rfl⟩

theorem boxS_sound (h:SR B N st β φ a w) {t:TypeId} {u:AV} {q:Prop} {r:Option AV} {p:Value} (hs:boxS P st t u=some (q,r,st')) (hq:q) (hu:AVRel (st.ctx w β φ) u p) :
  ResM P B N st st' β φ a w r (Instr.box t p):=by
 unfold boxS at hs
 split at hs
 ·rename_i ls e
  simp only [Option.some.injEq,Prod.mk.injEq] at hs
  obtain ⟨rfl,rfl,rfl⟩:=hs
  obtain ⟨hl,_⟩:=leaves_cells e hu
  obtain ⟨β',φ',le,sr,hp⟩:=h.newBox (vs:=p.cells) (T:=t) hl
  exact ⟨β',φ',_,le,sr,rfl,_,_,rfl,by simp [Instr.box,newVar,newRow],hp⟩
 ·cases hs

theorem SR.write (h:SR B N st β φ a w) {o b:Nat} {T:TypeId} {vs vs':Array Value} {x:AObj} (hφ:b ∈ φ o) (hheap:w.heap[b]?=some (.cells vs T (0,0)))
  (hc:Compat (st.obj o) x) (hx:x ≠ .dead)
  (hobj:(st.ctx w β φ).Le ((st.setObj o x).ctx (w.setRow b vs') β φ) -> (w.setRow b vs').heap[b]?=some (.cells vs' T (0,0)) -> ObjRel ((st.setObj o x).ctx (w.setRow b vs') β φ) φ o) :
  (st.ctx w β φ).Le ((st.setObj o x).ctx (w.setRow b vs') β φ) /\ SR B N (st.setObj o x) β φ a (w.setRow b vs'):=by
 have ho:o < st.next:=by
  apply Classical.byContradiction
  intro hn
  rw [dead_phi h (h.dead o (by omega))] at hφ
  cases hφ
 refine h.change (fun k=>k=o) rfl (Nat.le_refl _) (fun k hk=>St.obj_setObj_ne st x hk) (fun _ _=>rfl) (fun _ _=>rfl) (fun k hk=>?_) (fun k hk _=>?_) ?_ (fun le k hk=>?_) (fun k _=>h.nodup k)
  (fun k hk b' hb'=>?_) (fun k k' hk hk' hne=>absurd (hk.trans hk'.symm) hne)
 ·have hk':st.next <= k:=hk
  rw [St.obj_setObj_ne st x (by omega)]
  exact h.dead k hk
 ·subst hk
  rw [St.obj_setObj_same]
  exact ⟨hc,fun _=>rfl⟩
 ·exact (Frm.refl w _).setRow b (fun _=>⟨o,rfl,hφ⟩) vs'
 ·subst hk
  exact hobj le (setRow_heap w b vs vs' T (0,0) hheap)
 ·subst hk
  exact ⟨by simpa using (h.fp k b' hb').1,.inr ⟨k,rfl,hb'⟩⟩

theorem sepKs_lt (h:SR B N st β φ a w):∀ {zs:List D} {ls:List Leaf} {q:Prop} {ds:List D} {ks:List Nat},sepLeaves st zs ls=some (q,ds,ks) -> ∀ o ∈ ks,o < st.next
 | [],[],_,_,_,hs,o,ho=>by
  simp only [sepLeaves,Option.some.injEq,Prod.mk.injEq] at hs
  obtain ⟨rfl,rfl,rfl⟩:=hs
  cases ho
 | z :: zs,l :: ls,_,_,_,hs,o,ho=>by
  simp only [sepLeaves] at hs
  split at hs
  ·rename_i p d k q ds ks e1 e2
   simp only [Option.some.injEq,Prod.mk.injEq] at hs
   obtain ⟨rfl,rfl,rfl⟩:=hs
   rcases List.mem_append.1 ho with ho | ho
   ·cases l with
    | own o' =>
     simp only [sepLeaf] at e1
     split at e1
     ·rename_i sz rows eo
      simp only [Option.some.injEq,Prod.mk.injEq] at e1
      obtain ⟨rfl,rfl,rfl⟩:=e1
      simp at ho
      subst ho
      apply Classical.byContradiction
      intro hn
      rw [h.dead o (by omega)] at eo
      cases eo
     ·cases e1
    | dat d'=>simp only [sepLeaf,Option.some.injEq,Prod.mk.injEq] at e1;obtain ⟨_,_,rfl⟩:=e1;cases ho
    | emp =>
     simp only [sepLeaf] at e1
     split at e1
     ·simp only [Option.some.injEq,Prod.mk.injEq] at e1;obtain ⟨_,_,rfl⟩:=e1;cases ho
     ·cases e1
    | ptr p=>simp [sepLeaf] at e1
    | part o i n=>simp [sepLeaf] at e1
    | fn f c=>simp [sepLeaf] at e1
   ·exact sepKs_lt h e2 o ho
  ·cases hs
 | [],_ :: _,_,_,_,hs,_,_=>by simp [sepLeaves] at hs
 | _ :: _,[],_,_,_,hs,_,_=>by simp [sepLeaves] at hs

theorem SR.writeK (h:SR B N st β φ a w) {o b:Nat} {ks S2:List Nat} {T:TypeId} {vs vs':Array Value} {x:AObj} (hφ:b ∈ φ o) (hheap:w.heap[b]?=some (.cells vs T (0,0)))
  (hc:Compat (st.obj o) x) (hx:x ≠ .dead) (hks:∀ k ∈ ks,k < st.next) (hok:o ∉ ks) (hn2:S2.Nodup) (hm2:∀ y ∈ S2,∃ k ∈ ks,y ∈ φ k)
  (hobj:∀ φ',φ' o=φ o ++ S2 -> (st.ctx w β φ).Le (((killAll st ks).setObj o x).ctx (w.setRow b vs') β φ') -> (w.setRow b vs').heap[b]?=some (.cells vs' T (0,0)) -> ObjRel (((killAll st ks).setObj o x).ctx (w.setRow b vs') β φ') φ' o) :
  ∃ φ',(st.ctx w β φ).Le (((killAll st ks).setObj o x).ctx (w.setRow b vs') β φ') /\ SR B N ((killAll st ks).setObj o x) β φ' a (w.setRow b vs'):=by
 have ho:o < st.next:=by
  apply Classical.byContradiction
  intro hn
  rw [dead_phi h (h.dead o (by omega))] at hφ
  cases hφ
 have hob:∀ k,k ≠ o -> k ∉ ks -> ((killAll st ks).setObj o x).obj k=st.obj k:=fun k h1 h2=>(St.obj_setObj_ne _ _ h1).trans (killAll_out ks st k h2)
 have hobk:∀ k,k ∈ ks -> ((killAll st ks).setObj o x).obj k=.dead:=fun k hk=>(St.obj_setObj_ne _ _ (fun (e:k=o)=>hok (e ▸ hk))).trans (killAll_in ks st k hk)
 let φ':Nat -> List Nat:=fun k=>if k=o then φ o ++ S2 else if k ∈ ks then [] else φ k
 have f1:φ' o=φ o ++ S2:=if_pos rfl
 have f2:∀ k,k ∈ ks -> φ' k=[]:=fun k hk=>by
  have hne:k ≠ o:=fun e=>hok (e ▸ hk)
  show (if k=o then φ o ++ S2 else if k ∈ ks then [] else φ k)=[]
  rw [if_neg hne,if_pos hk]
 have f3:∀ k,k ≠ o -> k ∉ ks -> φ' k=φ k:=fun k h1 h2=>by
  show (if k=o then φ o ++ S2 else if k ∈ ks then [] else φ k)=φ k
  rw [if_neg h1,if_neg h2]
 refine ⟨φ',h.change (st':=(killAll st ks).setObj o x) (β':=β) (φ':=φ') (w':=w.setRow b vs') (fun k=>k=o \/ k ∈ ks) (killAll_env ks st) (by show st.next <= (killAll st ks).next;rw [killAll_next];exact Nat.le_refl _)
  (fun k hk=>hob k (fun e=>hk (.inl e)) (fun e=>hk (.inr e))) (fun _ _=>rfl) (fun k hk=>f3 k (fun e=>hk (.inl e)) (fun e=>hk (.inr e))) (fun k hk=>?_) (fun k hk _=>?_) ?_ (fun le k hk=>?_) (fun k hk=>?_) (fun k hk y hy=>?_) (fun k k' hk hk' hne y hy hy'=>?_)⟩
 ·have hk':(killAll st ks).next <= k:=hk
  rw [killAll_next] at hk'
  by_cases hm:k ∈ ks
  ·exact hobk k hm
  ·rw [hob k (by omega) hm];exact h.dead k hk'
 ·rcases hk with hk | hk
  ·subst hk
   rw [St.obj_setObj_same]
   exact ⟨hc,fun _=>rfl⟩
  ·rw [hobk k hk]
   exact ⟨by cases st.obj k <;> trivial,fun hd=>absurd rfl hd⟩
 ·exact (Frm.refl w _).setRow b (fun _=>⟨o,.inl rfl,hφ⟩) vs'
 ·rcases hk with hk | hk
  ·subst hk
   exact hobj φ' f1 le (setRow_heap w b vs vs' T (0,0) hheap)
  ·unfold ObjRel
   rw [show ((((killAll st ks).setObj o x).ctx (w.setRow b vs') β φ').ob k)=_ from hobk k hk]
   exact f2 k hk
 ·rcases hk with hk | hk
  ·subst hk
   rw [f1]
   exact List.nodup_append.2 ⟨h.nodup k,hn2,fun y hy z hz hyz=>by
    subst hyz
    obtain ⟨k',hk',hy'⟩:=hm2 y hz
    exact h.disj k k' (fun e=>hok (e ▸ hk')) y hy hy'⟩
  ·rw [f2 k hk];exact List.nodup_nil
 ·rcases hk with hk | hk
  ·subst hk
   rw [f1] at hy
   rcases List.mem_append.1 hy with hy | hy
   ·exact ⟨by simpa using (h.fp k y hy).1,.inr ⟨k,.inl rfl,hy⟩⟩
   ·obtain ⟨k',hk',hy'⟩:=hm2 y hy
    exact ⟨by simpa using (h.fp k' y hy').1,.inr ⟨k',.inr hk',hy'⟩⟩
  ·rw [f2 k hk] at hy;cases hy
 ·rcases hk with hk | hk
  ·rcases hk' with hk' | hk'
   ·exact hne (hk.trans hk'.symm)
   ·rw [f2 k' hk'] at hy';cases hy'
  ·rw [f2 k hk] at hy;cases hy

theorem run_storeVar_at {t:TypeId} {b off s:Nat} {agg:Bool} {T:TypeId} {cur:Array Value} {v:Value} (ht:tl P t=some (agg,s)) (hheap:w.heap[b]?=some (.cells cur T (0,0)))
  (hv:v.cells.size=s) (h1:∀ x ∈ v.cells,x.oneCell'=true) (hfit:off + s <= cur.size) :
  (Instr.storeAt t (.pointer (some ⟨b,off,none⟩)) v).run P w=.ok () (w.setRow b (splice cur.toList off v.cells.toList).toArray):=by
 obtain ⟨_,hsz,_⟩:=tl_spec (P:=P) (w:=w) ht
 have hst:=run_storeCells_at P b off T v.cells.toList 0 cur w hheap (by simpa [hv] using hfit) (fun x hx=>h1 x (by simpa using hx))
 simp only [Nat.add_zero] at hst
 simp [Instr.storeAt,Instr.sureAddr,storeVar,hsz,hv,hst,splice]

theorem storeVec (h:SR B N st β φ a w) {t:TypeId} {zs ds:List D} {ls:List Leaf} {ks:List Nat} {agg:Bool} {s o i j sz:Nat} {rows:List (List D)} {q':Prop} {p1 p2:Value} (ht:tl P t=some (agg,s)) (eo:st.obj o=.vec sz true rows)
  (hL:Leaves (st.ctx w β φ) ls p2.cells.toList) (hone:∀ x ∈ p2.cells,x.oneCell'=true) (hcz:p2.cells.size=ls.length) (e2:sepLeaves st zs ls=some (q',ds,ks)) (hq1:q') (hkn:ks.Nodup) (hok:o ∉ ks)
  (hls:ls.length=s) (hi:i < rows.length) (hj:j + s <= sz) (hp:PtrRel (st.ctx w β φ) (.own o i j) p1) :
  ResU P B N st ((killAll st ks).setObj o (.vec sz true (rows.set i (if j=0 /\ s=sz then ds else splice (rows.getD i []) j ds)))) β φ a w none (Instr.storeAt t p1 p2):=by
     obtain ⟨hn,hp⟩:=hp
     have ho:=h.objs o
     unfold ObjRel at ho
     rw [show (st.ctx w β φ).ob o=_ from eo] at hp ho
     obtain ⟨b,hb,rfl⟩:=hp
     obtain ⟨hsz,hcap,ho⟩:=ho
     have hrowl:(rows.getD i []).length=sz:=hsz _ (by simp [List.getD,List.getElem?_eq_getElem hi])
     have hdl0:ds.length=ls.length:=(sepLeaves_sound h e2 hq1 hkn hL).1
     have hif:(if j=0 /\ s=sz then ds else splice (rows.getD i []) j ds)=splice (rows.getD i []) j ds:=by
      split
      ·rename_i hc
       obtain ⟨rfl,rfl⟩:=hc
       have hd:(rows.getD i []).drop ds.length=[]:=List.drop_eq_nil_of_le (by omega)
       unfold splice
       rw [Nat.zero_add,hd]
       simp
      ·rfl
     rw [hif]
     rcases ho with ⟨_,h0⟩ | ⟨b',T,S,E,vs,hb',hheap,hvs,hrep,hφ,hS⟩
     ·omega
     ·rw [hb] at hb'
      cases hb'
      have hheap':w.heap[b]?=some (.cells vs T (0,0)):=hheap
      obtain ⟨hdl,S2,hr2,hn2,hm2⟩:=sepLeaves_sound h e2 hq1 hkn hL
      obtain ⟨A,EE,f1,f2,f3,f4⟩:=flatten_cut hsz hi hj
      have hset:=f4 ds (by omega)
      have hsp:splice (rows.getD i []) j ds=(rows.getD i []).take j ++ ds ++ (rows.getD i []).drop (j + s):=by simp only [splice,hdl,hls]
      rw [<- hsp] at hset
      have hlen:(rows.getD i []).length=sz:=hsz _ (by simp [List.getD,List.getElem?_eq_getElem hi])
      have hbound:i * sz + j + s <= rows.length * sz:=by
       have:(i + 1) * sz <= rows.length * sz:=Nat.mul_le_mul_right _ hi
       rw [Nat.add_mul,Nat.one_mul] at this
       omega
      have hcapb:rows.length * sz <= (β o).cap * sz:=Nat.mul_le_mul_right _ hcap
      have hvs':vs.size=(β o).cap * sz:=hvs.1
      obtain ⟨_,sd,hsd⟩:=hvs
      have hown:OwnL w rows.flatten (vs.toList.take (rows.length * sz)) S:=hS.2.2
      rw [f1] at hown
      obtain ⟨S1,S4,hSe,g1,g2⟩:=OwnL.split A hown
      obtain ⟨S3,S5,hSe',g3,g4⟩:=OwnL.split _ g2
      rw [f3] at g3 g4
      have hlt2:OwnL w ds p2.cells.toList S2:=hr2
      obtain ⟨φ',le,sr⟩:=h.writeK (ks:=ks) (S2:=S2) (vs':=(splice vs.toList (i * sz + j) p2.cells.toList).toArray) (x:=.vec sz true (rows.set i (splice (rows.getD i []) j ds))) (by rw [hφ];simp) hheap'
       (by rw [eo];exact ⟨rfl,by simp⟩) (by simp) (sepKs_lt h e2) hok hn2 hm2 (fun φ' hφ' le hh=>by
         unfold ObjRel
         rw [show (((killAll st ks).setObj o (.vec sz true (rows.set i (splice (rows.getD i []) j ds)))).ctx _ β φ').ob o=_ from St.obj_setObj_same (killAll st ks) o _]
         have hbS2:b ∉ S2:=fun hb2=>by
          obtain ⟨k',hk',hy'⟩:=hm2 b hb2
          exact h.disj o k' (fun e=>hok (e ▸ hk')) b (by rw [hφ];simp) hy'
         have hkeyO:OwnL (w.setRow b (splice vs.toList (i * sz + j) p2.cells.toList).toArray) (rows.set i (splice (rows.getD i []) j ds)).flatten ((splice vs.toList (i * sz + j) p2.cells.toList).toArray.toList.take ((rows.set i (splice (rows.getD i []) j ds)).length * sz)) (S1 ++ (S2 ++ S5)):=by
          rw [hset]
          have k1:∀ x ∈ S1 ++ S5,(w.setRow b (splice vs.toList (i * sz + j) p2.cells.toList).toArray).heap[x]?=w.heap[x]?:=by
           intro x hx
           refine setRow_other _ _ _ _ (fun e=>?_)
           have hnd:=h.nodup o
           rw [hφ] at hnd
           have hxE:x ∈ E:=by
            refine hS.2.1 x ?_
            rw [hSe,hSe']
            rcases List.mem_append.1 hx with hx | hx
            ·exact List.mem_append_left _ hx
            ·exact List.mem_append_right _ (List.mem_append_right _ hx)
           exact (List.nodup_cons.1 hnd).1 (e ▸ hxE)
          have hz:w.heap.size <= (w.setRow b (splice vs.toList (i * sz + j) p2.cells.toList).toArray).heap.size:=by simp
          have hr2':OwnL w ds p2.cells.toList S2:=hr2
          have key:=OwnL.append (g1.frm (w':=w.setRow b (splice vs.toList (i * sz + j) p2.cells.toList).toArray) hz (fun x hx=>k1 x (List.mem_append_left _ hx)))
           (OwnL.append (hr2'.frm hz (fun x hx=>setRow_other _ _ _ _ (fun e=>hbS2 (e ▸ hx)))) (g4.frm hz (fun x hx=>k1 x (List.mem_append_right _ hx))))
          have hval:(splice vs.toList (i * sz + j) p2.cells.toList).take (rows.length * sz) =
            (vs.toList.take (rows.length * sz)).take A.length ++ (p2.cells.toList ++ ((vs.toList.take (rows.length * sz)).drop A.length).drop s):=by
           apply List.ext_getElem?
           intro k
           have hpl:p2.cells.toList.length=s:=by simp;omega
           have hvl:vs.toList.length=(β o).cap * sz:=by rw [Array.length_toList];exact hvs'
           rw [List.getElem?_take,splice_get (by omega),f2]
           by_cases c1:k < i * sz + j
           ·rw [List.getElem?_append_left (by simp;omega)]
            rw [if_pos (by omega),if_neg (by omega),List.getElem?_take,if_pos c1,List.getElem?_take,if_pos (by omega)]
           ·by_cases c2:k < i * sz + j + s
            ·rw [List.getElem?_append_right (by simp;omega)]
             rw [if_pos (by omega),if_pos (by omega)]
             rw [List.getElem?_append_left (by simp;omega)]
             congr 1
             simp
             omega
            ·rw [List.getElem?_append_right (by simp;omega),List.getElem?_append_right (by simp;omega)]
             rw [if_neg (show ¬ (i * sz + j <= k /\ k < i * sz + j + p2.cells.toList.length) by omega)]
             rw [List.getElem?_drop,List.getElem?_drop,List.getElem?_take]
             simp only [List.length_take,hvl,hpl]
             have e1:i * sz + j + (s + (k - min (i * sz + j) (min (rows.length * sz) ((β o).cap * sz)) - s))=k:=by omega
             rw [e1]
          rw [List.length_set]
          rw [show (splice vs.toList (i * sz + j) p2.cells.toList).toArray.toList=splice vs.toList (i * sz + j) p2.cells.toList from rfl,hval]
          exact key
         refine ⟨fun r hr=>?_,by rw [List.length_set];exact hcap,.inr ⟨b,T,S1 ++ (S2 ++ S5),E ++ S2,_,hb,hh,?_,hkeyO.rep,by rw [hφ',hφ];rfl,?_⟩⟩
         ·rcases List.mem_or_eq_of_mem_set hr with h1 | h1
          ·exact hsz r h1
          ·rw [h1,splice_length (by omega),hlen]
         ·refine ⟨?_,sd,?_⟩
          ·simp only [List.size_toArray]
           rw [splice_length (by simp [hcz];omega),Array.length_toList]
           exact hvs'
          ·rw [List.length_set]
           rw [show (splice vs.toList (i * sz + j) p2.cells.toList).toArray.toList=splice vs.toList (i * sz + j) p2.cells.toList from rfl,splice_drop (by simp [hcz];omega) (by simp [hcz];omega)]
           show RepL (w.setRow b _) _ _ _
           exact (show RepL w _ _ _ from hsd).frm0 (by simp)
         ·have hSS:S=S1 ++ (S3 ++ S5):=by rw [hSe,hSe']
          have hS12:∀ x ∈ S1 ++ S5,x ∈ E:=fun x hx=>hS.2.1 x (by
           rw [hSS]
           rcases List.mem_append.1 hx with hx | hx
           ·exact List.mem_append_left _ hx
           ·exact List.mem_append_right _ (List.mem_append_right _ hx))
          have hd2:∀ x ∈ E,x ∉ S2:=fun x hx hx2=>by
           obtain ⟨k',hk',hy'⟩:=hm2 x hx2
           exact h.disj o k' (fun e=>hok (e ▸ hk')) x (by rw [hφ];exact List.mem_cons_of_mem _ hx) hy'
          refine ⟨?_,fun x hx=>?_,hkeyO⟩
          ·have:=hS.1
           rw [hSS] at this
           obtain ⟨n1,n2,n3⟩:=List.nodup_append.1 this
           refine List.nodup_append.2 ⟨n1,List.nodup_append.2 ⟨hn2,(List.nodup_append.1 n2).2.1,fun x hx y hy hxy=>hd2 y (hS12 y (List.mem_append_right _ hy)) (hxy ▸ hx)⟩,fun x hx y hy hxy=>?_⟩
           subst hxy
           rcases List.mem_append.1 hy with hy | hy
           ·exact hd2 x (hS12 x (List.mem_append_left _ hx)) hy
           ·exact n3 x hx x (List.mem_append_right _ hy) rfl
          ·rcases List.mem_append.1 hx with hx | hx
           ·exact List.mem_append_left _ (hS12 x (List.mem_append_left _ hx))
           ·rcases List.mem_append.1 hx with hx | hx
            ·exact List.mem_append_right _ hx
            ·exact List.mem_append_left _ (hS12 x (List.mem_append_right _ hx)))
      exact ⟨β,φ',_,le,sr,killAll_env ks st,rfl,run_storeVar_at ht hheap' (by omega) hone (by omega)⟩

theorem storeS_sound (h:SR B N st β φ a w) {t:TypeId} {u v:AV} {q:Prop} {r:Option AV} {p1 p2:Value} (hs:storeS P st t u v=some (q,r,st')) (hq:q)
  (hu:AVRel (st.ctx w β φ) u p1) (hv:AVRel (st.ctx w β φ) v p2):ResU P B N st st' β φ a w r (Instr.storeAt t p1 p2):=by
 unfold storeS at hs
 split at hs
 ·rename_i o i j
  split at hs
  ·rename_i ls agg s e1 ht
   obtain ⟨hL,hone⟩:=leaves_cells e1 hv
   have hcz:p2.cells.size=ls.length:=by have:=hL.1;simpa using this
   obtain ⟨hn,hp⟩:=hu
   have ho:=h.objs o
   unfold ObjRel at ho
   split at hs
   ·rename_i cells eo
    rw [show (st.ctx w β φ).ob o=_ from eo] at hp ho
    simp only [Option.some.injEq,Prod.mk.injEq] at hs
    obtain ⟨rfl,rfl,rfl⟩:=hs
    obtain ⟨hls,hj⟩:=hq
    obtain ⟨b,hb,rfl⟩:=hp
    obtain ⟨b',T,vs,hb',hφ,hheap,hLs⟩:=ho
    rw [hb] at hb'
    cases hb'
    have hheap':w.heap[b]?=some (.cells vs T (0,0)):=hheap
    have hvl:vs.size=cells.length:=by have:=hLs.1;simpa using this
    obtain ⟨le,sr⟩:=h.write (vs':=(splice vs.toList j p2.cells.toList).toArray) (x:=.box (splice cells j ls)) (by rw [hφ];simp) hheap' (by rw [eo];trivial) (by simp) (fun le hh=>by
     unfold ObjRel
     rw [show ((st.setObj o (.box (splice cells j ls))).ctx _ β φ).ob o=_ from St.obj_setObj_same st o _]
     exact ⟨b,T,_,hb,hφ,hh,by simpa using (hLs.mono le).splice (hL.mono le) (by omega)⟩)
    exact ⟨β,φ,_,le,sr,rfl,rfl,run_storeVar_at ht hheap' (by omega) hone (by omega)⟩
   ·rename_i sz rows eo
    rw [show (st.ctx w β φ).ob o=_ from eo] at hp ho
    split at hs
    case h_2=>cases hs
    rename_i zs ez
    split at hs
    ·rename_i q' ds e2
     simp only [Option.some.injEq,Prod.mk.injEq] at hs
     obtain ⟨rfl,rfl,rfl⟩:=hs
     obtain ⟨hq1,hls,hi,hj⟩:=hq
     exact storeVec h ht eo hL hone hcz e2 hq1 List.nodup_nil (by simp) hls hi hj ⟨hn,by rw [show (st.ctx w β φ).ob o=_ from eo];exact hp⟩
    ·rename_i q' ds k ks e2
     simp only [Option.some.injEq,Prod.mk.injEq] at hs
     obtain ⟨rfl,rfl,rfl⟩:=hs
     obtain ⟨hq1,hkn,hok,hls,hi,hj⟩:=hq
     exact storeVec h ht eo hL hone hcz e2 hq1 hkn hok hls hi hj ⟨hn,by rw [show (st.ctx w β φ).ob o=_ from eo];exact hp⟩
    ·cases hs
   ·cases hs
  ·cases hs
 ·cases hs
end
end Go.Abs
