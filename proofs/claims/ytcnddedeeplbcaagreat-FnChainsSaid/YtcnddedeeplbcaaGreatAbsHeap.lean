/- Abstract operations that make or write memory: definitions, and small lemmas on lists of leaves. -/
import Derived.Test.YtcnddedeeplbcaaGreatAbsPureS
namespace Go.Abs
set_option linter.unusedVariables false

def splice {α:Type} (l:List α) (off:Nat) (us:List α):List α:=l.take off ++ us ++ l.drop (off + us.length)

theorem splice_length {α:Type} {l us:List α} {off:Nat} (h:off + us.length <= l.length):(splice l off us).length=l.length:=by
 simp [splice];omega

theorem splice_get {α:Type} {l us:List α} {off:Nat} (h:off + us.length <= l.length) (j:Nat) :
  (splice l off us)[j]?=if off <= j /\ j < off + us.length then us[j - off]? else l[j]?:=by
 have hl:(l.take off).length=off:=by simp;omega
 unfold splice
 by_cases h1:j < off
 ·rw [List.append_assoc,List.getElem?_append_left (by omega),List.getElem?_take,if_pos h1,if_neg (by omega)]
 ·by_cases h2:j < off + us.length
  ·rw [List.getElem?_append_left (by simp;omega),List.getElem?_append_right (by omega),if_pos (by omega),hl]
  ·rw [List.getElem?_append_right (by simp;omega),List.getElem?_drop,if_neg (by omega)]
   congr 1
   simp
   omega

theorem splice_drop {α:Type} {l us:List α} {off k:Nat} (h:off + us.length <= l.length) (hk:off + us.length <= k):(splice l off us).drop k=l.drop k:=by
 apply List.ext_getElem?
 intro j
 rw [List.getElem?_drop,splice_get h,if_neg (by omega),List.getElem?_drop]

theorem Leaves.splice {C:Ctx} {ls us:List Leaf} {vs xs:List Value} {off:Nat} (h1:Leaves C ls vs) (h2:Leaves C us xs) (h:off + us.length <= ls.length):Leaves C (splice ls off us) (splice vs off xs):=by
 have hv:off + xs.length <= vs.length:=by rw [h1.1,h2.1];exact h
 refine ⟨by rw [splice_length h,splice_length hv,h1.1],fun j l hl=>?_⟩
 rw [splice_get h] at hl
 rw [splice_get hv,h2.1]
 split at hl
 ·rename_i hc
  rw [if_pos hc]
  exact h2.2 _ _ hl
 ·rename_i hc
  rw [if_neg hc]
  exact h1.2 _ _ hl

theorem Leaves.append {C:Ctx} {ls us:List Leaf} {vs xs:List Value} (h1:Leaves C ls vs) (h2:Leaves C us xs):Leaves C (ls ++ us) (vs ++ xs):=by
 refine ⟨by simp [h1.1,h2.1],fun j l hl=>?_⟩
 by_cases hj:j < ls.length
 ·rw [List.getElem?_append_left hj] at hl
  rw [List.getElem?_append_left (by rw [h1.1];exact hj)];exact h1.2 _ _ hl
 ·rw [List.getElem?_append_right (by omega)] at hl
  rw [List.getElem?_append_right (by rw [h1.1];omega),h1.1];exact h2.2 _ _ hl

theorem Leaves.nil {C:Ctx}:Leaves C [] []:=⟨rfl,fun j l h=>by simp at h⟩
theorem Leaves.single {C:Ctx} {l:Leaf} {v:Value} (h:LeafRel C l v):Leaves C [l] [v] :=
 ⟨rfl,fun j l' hl=>by
  cases j with
  | zero=>simp at hl;subst hl;exact ⟨v,rfl,h⟩
  | succ j=>simp at hl⟩

def AV.leaves:AV -> Option (List Leaf)
 | .one l=>some [l]
 | .agg ls=>some ls
 | _=>none

theorem leaves_cells {C:Ctx} {a:AV} {ls:List Leaf} {v:Value} (h:a.leaves=some ls) (hr:AVRel C a v):Leaves C ls v.cells.toList /\ (∀ x ∈ v.cells,x.oneCell'=true):=by
 cases a with
 | one l =>
  cases h
  have ho:=LeafRel.one (show LeafRel C l v from hr)
  have hc:v.cells=#[v]:=by cases v <;> first | rfl | (simp [Value.oneCell'] at ho)
  rw [hc]
  exact ⟨Leaves.single hr,fun x hx=>by simp at hx;subst hx;exact ho⟩
 | agg ls' =>
  cases h
  obtain ⟨vs,rfl,hl⟩:=hr
  exact ⟨hl,fun x hx=>hl.one x (by simpa [Value.cells] using hx)⟩
 | tup vs=>cases h
 | ifg b v=>cases h

def sepLeaf (st:St) (z:D):Leaf -> Option (Prop × D × List Nat)
 | .dat d=>some (d.flat=true,d,[])
 | .emp=>match z with
  | .sl sz _=>some (True,.sl sz [],[])
  | _=>none
 | .own o=>match st.obj o with
  | .vec sz true rows=>some (True,.sl sz rows,[o])
  | _=>none
 | _=>none

def sepLeaves (st:St):List D -> List Leaf -> Option (Prop × List D × List Nat)
 | [],[]=>some (True,[],[])
 | z :: zs,l :: ls=>match sepLeaf st z l,sepLeaves st zs ls with
  | some (p,d,k),some (q,ds,ks)=>some (p /\ q,d :: ds,k ++ ks)
  | _,_=>none
 | _,_=>none

section
variable {P:Program} {B:Base} {N:Nat} {st st':St} {β:Nat -> Info} {φ:Nat -> List Nat} {a:Act} {w:World}

theorem vec_rep (h:SR B N st β φ a w) {o sz:Nat} {sep:Bool} {rows:List (List D)} (e:st.obj o=.vec sz sep rows) :
  ∃ S,Rep w (.sl sz rows) (.slice (β o).base rows.length (β o).cap) S /\ (sep=true -> S.Nodup /\ ∀ x ∈ S,x ∈ φ o) /\ (sep=false -> ∀ x ∈ S,x ∈ φ o \/ ¬ ∃ o',x ∈ φ o'):=by
 have ho:=h.objs o
 unfold ObjRel at ho
 rw [show (st.ctx w β φ).ob o=_ from e] at ho
 obtain ⟨hsz,hcap,ho⟩:=ho
 rcases ho with ⟨hφ,h0⟩ | ⟨b,T,S,E,vs,hb,hheap,hvs,hrep,hφ,hS⟩
 ·have h0':(β o).cap=0:=h0
  have hr:rows=[]:=List.eq_nil_of_length_eq_zero (by have:rows.length <= (β o).cap:=hcap;omega)
  subst hr
  exact ⟨[],.nil ..,fun _=>⟨List.nodup_nil,by simp⟩,fun _=>by simp⟩
 ·have hb':(β o).base=some ⟨b,0,none⟩:=hb
  have hheap':w.heap[b]?=_:=hheap
  refine ⟨b :: S,?_,fun hs=>?_,fun hs=>?_⟩
  ·rw [hb']
   refine .sl sz rows b 0 _ _ S (lt_of_heap hheap') hsz hrep (fun j v hj=>?_) hcap
   rw [Nat.zero_add]
   refine (cell_of_heap hheap').trans ?_
   rw [<- Array.getElem?_toList]
   rw [List.getElem?_take] at hj
   split at hj
   ·exact hj
   ·cases hj
  ·subst hs
   have hnd:=h.nodup o
   rw [hφ] at hnd ⊢
   have h1:=List.nodup_cons.1 hnd
   obtain ⟨hn,hsub,_⟩:S.Nodup /\ (∀ x ∈ S,x ∈ E) /\ _:=hS
   exact ⟨List.nodup_cons.2 ⟨fun hx=>h1.1 (hsub b hx),hn⟩,fun x hx=>by
    cases hx with
    | head=>exact List.mem_cons_self ..
    | tail _ hx=>exact List.mem_cons_of_mem _ (hsub x hx)⟩
  ·subst hs
   intro x hx
   cases hx with
   | head=>left;rw [hφ];exact List.mem_cons_self ..
   | tail _ hx=>exact .inr (hS x hx)

theorem vec_own (h:SR B N st β φ a w) {o sz:Nat} {rows:List (List D)} (e:st.obj o=.vec sz true rows) :
  ∃ S,Own w (.sl sz rows) (.slice (β o).base rows.length (β o).cap) S /\ S.Nodup /\ ∀ x ∈ S,x ∈ φ o:=by
 have ho:=h.objs o
 unfold ObjRel at ho
 rw [show (st.ctx w β φ).ob o=_ from e] at ho
 obtain ⟨hsz,hcap,ho⟩:=ho
 rcases ho with ⟨hφ,h0⟩ | ⟨b,T,S,E,vs,hb,hheap,hvs,hrep,hφ,hn,hsub,hown⟩
 ·have h0':(β o).cap=0:=h0
  have hr:rows=[]:=List.eq_nil_of_length_eq_zero (by have:rows.length <= (β o).cap:=hcap;omega)
  subst hr
  exact ⟨[],by rw [h0'];exact .nil ..,List.nodup_nil,by simp⟩
 ·have hb':(β o).base=some ⟨b,0,none⟩:=hb
  rw [hb']
  have hnd:=h.nodup o
  rw [hφ] at hnd ⊢
  have h1:=List.nodup_cons.1 hnd
  exact ⟨b :: S,.sl sz rows b T _ vs S hheap hsz hcap hvs hown,List.nodup_cons.2 ⟨fun hx=>h1.1 (hsub b hx),hn⟩,fun x hx=>by
   cases hx with
   | head=>exact List.mem_cons_self ..
   | tail _ hx=>exact List.mem_cons_of_mem _ (hsub x hx)⟩

theorem sepLeaf_sound (h:SR B N st β φ a w) {z:D} {l:Leaf} {q:Prop} {d:D} {ks:List Nat} (hs:sepLeaf st z l=some (q,d,ks)) (hq:q) {v:Value} (hl:LeafRel (st.ctx w β φ) l v) :
  ∃ S,Own w d v S /\ S.Nodup /\ ∀ x ∈ S,∃ o ∈ ks,x ∈ φ o:=by
 cases l with
 | dat d' =>
  simp only [sepLeaf,Option.some.injEq,Prod.mk.injEq] at hs
  obtain ⟨rfl,rfl,rfl⟩:=hs
  obtain ⟨S,hr,_⟩:=hl
  have hr':Rep w d' v S:=hr
  have:S=[]:=by cases hr' <;> first | rfl | (simp [D.flat] at hq)
  subst this
  exact ⟨[],.flat _ _ hr' hq,List.nodup_nil,by simp⟩
 | emp =>
  simp only [sepLeaf] at hs
  split at hs
  ·simp only [Option.some.injEq,Prod.mk.injEq] at hs
   obtain ⟨rfl,rfl,rfl⟩:=hs
   obtain ⟨b,rfl⟩:=hl
   exact ⟨[],.nil ..,List.nodup_nil,by simp⟩
  ·cases hs
 | own o =>
  simp only [sepLeaf] at hs
  split at hs
  ·rename_i sz rows e
   simp only [Option.some.injEq,Prod.mk.injEq] at hs
   obtain ⟨rfl,rfl,rfl⟩:=hs
   obtain ⟨_,hv⟩:=hl
   rw [show (st.ctx w β φ).ob o=_ from e] at hv
   obtain ⟨S,hr,hn,hS⟩:=vec_own h e
   subst hv
   exact ⟨S,hr,hn,fun x hx=>⟨o,by simp,hS x hx⟩⟩
  ·cases hs
 | part o i n=>simp [sepLeaf] at hs
 | ptr p=>simp [sepLeaf] at hs
 | fn f c=>simp [sepLeaf] at hs

theorem sepLeaves_sound (h:SR B N st β φ a w):∀ {zs:List D} {ls:List Leaf} {q:Prop} {ds:List D} {ks:List Nat},sepLeaves st zs ls=some (q,ds,ks) -> q -> ks.Nodup -> ∀ {vs:List Value},Leaves (st.ctx w β φ) ls vs ->
  ds.length=ls.length /\ ∃ S,OwnL w ds vs S /\ S.Nodup /\ ∀ x ∈ S,∃ o ∈ ks,x ∈ φ o
 | [],[],_,_,_,hs,hq,_,vs,hl=>by
  simp only [sepLeaves,Option.some.injEq,Prod.mk.injEq] at hs
  obtain ⟨rfl,rfl,rfl⟩:=hs
  have:vs=[]:=List.eq_nil_of_length_eq_zero hl.1
  subst this
  exact ⟨rfl,[],.nil,List.nodup_nil,by simp⟩
 | z :: zs,l :: ls,_,_,_,hs,hq,hn,vs,hl=>by
  simp only [sepLeaves] at hs
  split at hs
  ·rename_i p d k q ds ks e1 e2
   simp only [Option.some.injEq,Prod.mk.injEq] at hs
   obtain ⟨rfl,rfl,rfl⟩:=hs
   obtain ⟨v,vs',rfl⟩:∃ v vs',vs=v :: vs':=by
    cases vs with
    | nil=>have:=hl.1;simp at this
    | cons v vs'=>exact ⟨v,vs',rfl⟩
   obtain ⟨v',hv',hlr⟩:=hl.2 0 l rfl
   cases hv'
   have hn':=List.nodup_append.1 hn
   obtain ⟨S1,r1,n1,m1⟩:=sepLeaf_sound h e1 hq.1 hlr
   obtain ⟨hlen,S2,r2,n2,m2⟩:=sepLeaves_sound h e2 hq.2 hn'.2.1 (vs:=vs') ⟨by have:=hl.1;simpa using this,fun j l' hj=>by simpa using hl.2 (j + 1) l' (by simpa using hj)⟩
   refine ⟨by simp [hlen],S1 ++ S2,.cons r1 r2,List.nodup_append.2 ⟨n1,n2,fun x hx y hy hxy=>?_⟩,fun x hx=>?_⟩
   ·subst hxy
    obtain ⟨o1,k1,p1⟩:=m1 x hx
    obtain ⟨o2,k2,p2⟩:=m2 x hy
    exact h.disj o1 o2 (fun e=>hn'.2.2 o1 k1 o2 k2 e) x p1 p2
   ·rcases List.mem_append.1 hx with hx | hx
    ·obtain ⟨o,k1,p1⟩:=m1 x hx;exact ⟨o,List.mem_append_left _ k1,p1⟩
    ·obtain ⟨o,k1,p1⟩:=m2 x hx;exact ⟨o,List.mem_append_right _ k1,p1⟩
  ·cases hs
 | [],_ :: _,_,_,_,hs,_,_,_,_=>by simp [sepLeaves] at hs
 | _ :: _,[],_,_,_,hs,_,_,_,_=>by simp [sepLeaves] at hs

theorem dead_phi (h:SR B N st β φ a w) {o:Nat} (e:st.obj o=.dead):φ o=[]:=by
 have ho:=h.objs o
 unfold ObjRel at ho
 rw [show (st.ctx w β φ).ob o=_ from e] at ho
 exact ho

theorem next_phi (h:SR B N st β φ a w):φ st.next=[]:=dead_phi h (h.dead _ (Nat.le_refl _))

theorem SR.newBox (h:SR B N st β φ a w) {ls:List Leaf} {vs:Array Value} {T:TypeId} (hl:Leaves (st.ctx w β φ) ls vs.toList) :
  ∃ β' φ',(st.ctx w β φ).Le ((st.addObj (.box ls)).ctx (w.alloc (.cells vs T)) β' φ') /\ SR B N (st.addObj (.box ls)) β' φ' a (w.alloc (.cells vs T)) /\
   AVRel ((st.addObj (.box ls)).ctx (w.alloc (.cells vs T)) β' φ') (.one (.ptr (.own st.next 0 0))) (.pointer (some ⟨w.heap.size,0,none⟩)):=by
 have hb:∀ b ∈ [w.heap.size],b < (w.alloc (.cells vs T)).heap.size /\ w.heap.size <= b:=by simp
 obtain ⟨le,sr⟩:=h.add (w':=w.alloc (.cells vs T)) (.box ls) ⟨some ⟨w.heap.size,0,none⟩,0⟩ [w.heap.size] ((Frm.refl w _).alloc _) hb (by simp) (fun le=>by
  unfold ObjRel
  rw [show (((st.addObj (.box ls)).ctx (w.alloc (.cells vs T)) (upd β st.next ⟨some ⟨w.heap.size,0,none⟩,0⟩) (upd φ st.next [w.heap.size])).ob st.next)=.box ls from St.obj_addObj_same st _]
  exact ⟨w.heap.size,T,vs,by show (upd β st.next _ st.next).base=_;rw [upd_same],upd_same ..,heap_alloc_new ..,hl.mono le⟩)
 refine ⟨_,_,le,sr,⟨Nat.lt_succ_self _,?_⟩⟩
 rw [show (((st.addObj (.box ls)).ctx (w.alloc (.cells vs T)) (upd β st.next ⟨some ⟨w.heap.size,0,none⟩,0⟩) (upd φ st.next [w.heap.size])).ob st.next)=.box ls from St.obj_addObj_same st _]
 exact ⟨w.heap.size,by show (upd β st.next _ st.next).base=_;rw [upd_same],rfl⟩
end
end Go.Abs
