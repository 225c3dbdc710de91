/- Slices of slices and of strings. -/
import Derived.Test.YtcnddedeeplbcaaGreatAbsCopy
namespace Go.Abs
set_option linter.unusedVariables false
set_option linter.unusedSimpArgs false

def boundS (d:Int):Option AV -> Option Int
 | none=>some d
 | some (.one (.dat (.int _ n)))=>some n
 | _=>none

def sliceS (P:Program) (st:St) (t:TypeId) (x:AV) (lo hi mx:Option AV):Out :=
 match mx with
 | some (.one (.dat (.int _ m)))=>match boundS 0 lo,hi,te P t with
  | some l,some (.one (.dat (.int _ h))),some _=>match x with
   | .one (.own o)=>match st.obj o with
    | .vec _ _ _=>some (l=0 /\ h=0 /\ m=0,some (.one .emp),st)
    | .frz _ _=>some (l=0 /\ h=0 /\ m=0,some (.one .emp),st)
    | _=>none
   | .one (.dat (.sl _ _))=>some (l=0 /\ h=0 /\ m=0,some (.one .emp),st)
   | .one .emp=>some (l=0 /\ h=0 /\ m=0,some (.one .emp),st)
   | _=>none
  | _,_,_=>none
 | some _=>none
 | none=>match x with
  | .one (.dat (.str s))=>match boundS 0 lo,boundS s.size hi with
   | some l,some h=>if tstr P t then some (0 <= l /\ l <= h /\ h <= s.size,some (.one (.dat (.str (s.extract l.toNat h.toNat)))),st) else none
   | _,_=>none
  | .one (.dat (.sl sz rows))=>match boundS 0 lo,boundS rows.length hi,te P t with
   | some l,some h,some (_,s,_)=>some (sz=s /\ 0 <= l /\ l <= h /\ h <= rows.length,some (.one (.dat (.sl sz ((rows.drop l.toNat).take (h.toNat - l.toNat))))),st)
   | _,_,_=>none
  | .one (.own o)=>match st.obj o with
   | .vec sz _ rows=>match boundS 0 lo,boundS rows.length hi,te P t with
    | some l,some h,some (_,s,_)=>some (sz=s /\ 0 <= l /\ l <= h /\ h <= rows.length,some (.one (.part o l.toNat (h.toNat - l.toNat))),st)
    | _,_,_=>none
   | .wide sz n rows=>match boundS 0 lo,boundS n hi,te P t with
    | some l,some h,some (_,s,_)=>some (sz=s /\ 0 <= l /\ l <= h /\ h <= rows.length,some (.one (.part o l.toNat (h.toNat - l.toNat))),st)
    | _,_,_=>none
   | .frz sz rows=>match boundS 0 lo,boundS rows.length hi,te P t with
    | some l,some h,some (_,s,_)=>some (sz=s /\ 0 <= l /\ l <= h /\ h <= rows.length,some (.one (.dat (.sl sz ((rows.drop l.toNat).take (h.toNat - l.toNat))))),st)
    | _,_,_=>none
   | _=>none
  | .one (.part o i n)=>match st.obj o with
   | .vec sz _ rows=>match boundS 0 lo,boundS n hi,te P t with
    | some l,some h,some (_,s,_)=>some (sz=s /\ 0 <= l /\ l <= h /\ i + h <= rows.length,some (.one (.part o (i + l.toNat) (h.toNat - l.toNat))),st)
    | _,_,_=>none
   | .wide sz m rows=>match boundS 0 lo,boundS n hi,te P t with
    | some l,some h,some (_,s,_)=>some (sz=s /\ 0 <= l /\ l <= h /\ i + h <= rows.length,some (.one (.part o (i + l.toNat) (h.toNat - l.toNat))),st)
    | _,_,_=>none
   | _=>none
  | .one .emp=>match boundS 0 lo,boundS 0 hi,te P t with
   | some l,some h,some _=>some (l=0 /\ h=0,some (.one .emp),st)
   | _,_,_=>none
  | .one (.ptr (.ro sz rows i j))=>match lo,hi,ta P t with
   | none,none,some (n,_,s)=>some (s=1 /\ n=sz /\ j=0 /\ i < rows.length,some (.one (.dat (.sl 1 ((rows.getD i []).map fun d=>[d])))),st)
   | _,_,_=>none
  | _=>none

section
variable {P:Program} {B:Base} {N:Nat} {st st':St} {β:Nat -> Info} {φ:Nat -> List Nat} {a:Act} {w w':World}

theorem SR.freeze (h:SR B N st β φ a w) {o sz:Nat} {sep:Bool} {rows:List (List D)} (eo:st.obj o=.vec sz sep rows) :
  (st.ctx w β φ).Le ((st.setObj o (.frz sz rows)).ctx w β (upd φ o [])) /\ SR B N (st.setObj o (.frz sz rows)) β (upd φ o []) a w:=by
 have hon:o < st.next:=lt_next h (by rw [eo];simp)
 obtain ⟨S,hr,hS1,hS2⟩:=vec_rep h eo
 refine h.change (fun k=>k=o) rfl (Nat.le_refl _) (fun k hk=>St.obj_setObj_ne st _ hk) (fun _ _=>rfl) (fun k hk=>upd_ne _ _ hk) (fun k hk=>?_) (fun k hk _=>?_) (Frm.refl w _) (fun le k hk=>?_) (fun k hk=>?_)
  (fun k hk b' hb'=>?_) (fun k k' hk hk' hne=>absurd (hk.trans hk'.symm) hne)
 ·have hk':st.next <= k:=hk
  rw [St.obj_setObj_ne st _ (by omega)]
  exact h.dead k hk
 ·subst hk
  rw [St.obj_setObj_same,eo]
  exact ⟨⟨rfl,rfl⟩,fun _=>rfl⟩
 ·subst hk
  unfold ObjRel
  rw [show ((st.setObj k (.frz sz rows)).ctx w β (upd φ k [])).ob k=_ from St.obj_setObj_same st k _]
  refine ⟨upd_same ..,fun hne=>?_,S,hr,fun x hx hm=>?_⟩
  ·have ho:=h.objs k
   unfold ObjRel at ho
   rw [show (st.ctx w β φ).ob k=_ from eo] at ho
   obtain ⟨_,hcap,ho⟩:=ho
   rcases ho with ⟨_,h0⟩ | ⟨b,_,_,_,_,hb,_⟩
   ·have h0':(β k).cap=0:=h0
    have hcap':rows.length <= (β k).cap:=hcap
    exact absurd (List.eq_nil_of_length_eq_zero (by omega)) hne
   ·exact ⟨b,hb⟩
  ·obtain ⟨k',hk'⟩:=hm
   by_cases e:k'=k
   ·subst e;rw [upd_same] at hk';cases hk'
   ·rw [upd_ne _ _ e] at hk'
    cases hsep:sep with
    | true=>exact h.disj k' k e x hk' ((hS1 hsep).2 x hx)
    | false =>
     rcases hS2 hsep x hx with h1 | h1
     ·exact h.disj k' k e x hk' h1
     ·exact h1 ⟨k',hk'⟩
 ·subst hk;rw [upd_same];exact List.nodup_nil
 ·subst hk;rw [upd_same] at hb';cases hb'

theorem run_bound_lo {C:Ctx} {d l:Int} {lo:Option AV} {p:Option Value} (hl:boundS d lo=some l) (hp:match lo,p with | none,none=>True | some v,some x=>AVRel C v x | _,_=>False) :
  (lo=none /\ p=none /\ l=d) \/ ∃ k,p=some (.int k l):=by
 unfold boundS at hl
 split at hl
 ·cases p with
  | none=>cases hl;exact .inl ⟨rfl,rfl,rfl⟩
  | some x=>exact hp.elim
 ·cases p with
  | none=>exact hp.elim
  | some x =>
   cases hl
   obtain ⟨S,h1,_⟩:=hp
   cases h1
   exact .inr ⟨_,rfl⟩
 ·cases hl

theorem run_sl' {t e:TypeId} {i:TypeInfo} {base:Option Addr} {len cap:Nat} {l h:Int} {plo phi:Option Value} (hte:P.underlying t=some (.slice e)) (hi:P.info? e=some i)
  (hlo:(plo=none /\ l=0) \/ ∃ k,plo=some (.int k l)) (hhi:(phi=none /\ h=len) \/ ∃ k,phi=some (.int k h)) (h0:0 <= l) (h1:l <= h) (e0:h <= cap) :
  (Instr.sliceAt t (.slice base len cap) plo phi none).run P w=.ok (.slice (if cap=l.toNat then base else base.map (·.add (l.toNat * i.size))) (h.toNat - l.toNat) (cap - l.toNat)) w:=by
 rcases hlo with ⟨rfl,rfl⟩ | ⟨k,rfl⟩ <;> rcases hhi with ⟨rfl,rfl⟩ | ⟨k',rfl⟩
 ·simp [Instr.sliceAt,Instr.slice,run_underlying hte,Instr.sliceBounds,sizeOf,typeInfo,hi]
 ·have h0':0 <= h:=h1
  simp [Instr.sliceAt,Instr.slice,run_underlying hte,Instr.sliceBounds,Instr.sliceBound,asIntOf,sizeOf,typeInfo,hi,h0',e0]
 ·have h1':l <= (len:Int):=h1
  simp [Instr.sliceAt,Instr.slice,run_underlying hte,Instr.sliceBounds,Instr.sliceBound,asIntOf,sizeOf,typeInfo,hi,h0,h1']
 ·have h0':0 <= h:=by omega
  have h1':l <= (h.toNat:Int):=by omega
  simp [Instr.sliceAt,Instr.slice,run_underlying hte,Instr.sliceBounds,Instr.sliceBound,asIntOf,sizeOf,typeInfo,hi,h0,h0',e0,h1']
  try omega

theorem run_sl {t e:TypeId} {i:TypeInfo} {base:Option Addr} {len cap:Nat} {l h:Int} {plo phi:Option Value} (hte:P.underlying t=some (.slice e)) (hi:P.info? e=some i)
  (hlo:(plo=none /\ l=0) \/ ∃ k,plo=some (.int k l)) (hhi:(phi=none /\ h=len) \/ ∃ k,phi=some (.int k h)) (h0:0 <= l) (h1:l <= h) (h2:h <= len) (hcap:len <= cap) :
  (Instr.sliceAt t (.slice base len cap) plo phi none).run P w=.ok (.slice (if cap=l.toNat then base else base.map (·.add (l.toNat * i.size))) (h.toNat - l.toNat) (cap - l.toNat)) w :=
 run_sl' hte hi hlo hhi h0 h1 (by omega)

theorem rep_part {sz cap:Nat} {rows:List (List D)} {base:Option Addr} {S:List Nat} (hr:Rep w (.sl sz rows) (.slice base rows.length cap) S) {l h:Nat} (h1:l <= h) (h2:h <= rows.length) :
  ∃ S',Rep w (.sl sz ((rows.drop l).take (h - l))) (.slice (if cap=l then base else base.map (·.add (l * sz))) (h - l) (cap - l)) S' /\ ∀ x ∈ S',x ∈ S:=by
 generalize hln:rows.length=ln at hr h2
 have hlen:((rows.drop l).take (h - l)).length=h - l:=by simp;omega
 by_cases he:h - l=0
 ·have:(rows.drop l).take (h - l)=[]:=List.eq_nil_of_length_eq_zero (by omega)
  rw [this,he]
  exact ⟨[],.nil ..,by simp⟩
 ·cases hr with
  | nil=>simp at hln;omega
  | sl _ _ b off _ vs S hb hsz hl hc hcap =>
   have hne:cap ≠ l:=by omega
   rw [if_neg hne]
   have e1:rows=rows.take l ++ ((rows.drop l).take (h - l) ++ (rows.drop l).drop (h - l)):=by rw [List.take_append_drop,List.take_append_drop]
   have hl':=hl
   rw [e1,List.flatten_append,List.flatten_append] at hl'
   obtain ⟨S1,S2,rfl,_,g2⟩:=RepL.split _ hl'
   obtain ⟨S3,S4,rfl,g3,_⟩:=RepL.split _ g2
   have hA:(rows.take l).flatten.length=l * sz:=by
    rw [flatten_length (sz:=sz) (fun r hr=>hsz r (List.mem_of_mem_take hr)),List.length_take,Nat.min_eq_left (by omega)]
   have hw:∀ r ∈ (rows.drop l).take (h - l),r.length=sz:=fun r hr=>hsz r (List.mem_of_mem_drop (List.mem_of_mem_take hr))
   refine ⟨b :: S3,?_,fun x hx=>?_⟩
   ·rw [Option.map_some,Addr.add_lit]
    have key:=Rep.sl (w:=w) sz ((rows.drop l).take (h - l)) b (off + l * sz) (cap - l) _ S3 hb hw g3 (fun j v hj=>by
     rw [List.getElem?_take] at hj
     split at hj
     ·rw [List.getElem?_drop,hA] at hj
      rw [Nat.add_assoc]
      exact hc _ v hj
     ·cases hj) (by rw [hlen];omega)
    rw [hlen] at key
    exact key
   ·cases hx with
    | head=>exact List.mem_cons_self ..
    | tail _ hx=>exact List.mem_cons_of_mem _ (List.mem_append_right _ (List.mem_append_left _ hx))

def OptRel (C:Ctx):Option AV -> Option Value -> Prop
 | none,none=>True
 | some v,some x=>AVRel C v x
 | _,_=>False

theorem bound_of {C:Ctx} {d l:Int} {lo:Option AV} {p:Option Value} (hl:boundS d lo=some l) (hp:OptRel C lo p):(p=none /\ l=d) \/ ∃ k,p=some (.int k l):=by
 unfold boundS at hl
 split at hl
 ·cases p with
  | none=>cases hl;exact .inl ⟨rfl,rfl⟩
  | some x=>exact hp.elim
 ·cases p with
  | none=>exact hp.elim
  | some x =>
   cases hl
   obtain ⟨S,h1,_⟩:=hp
   cases h1
   exact .inr ⟨_,rfl⟩
 ·cases hl

theorem run_sl3 {t e:TypeId} {i:TypeInfo} {base:Option Addr} {len cap:Nat} {plo:Option Value} {k2 k3:IntKind} (hte:P.underlying t=some (.slice e)) (hi:P.info? e=some i)
  (hlo:(plo=none /\ (0:Int)=0) \/ ∃ k,plo=some (.int k 0)) :
  ∃ b,(Instr.sliceAt t (.slice base len cap) plo (some (.int k2 0)) (some (.int k3 0))).run P w=.ok (.slice b 0 0) w:=by
 rcases hlo with ⟨rfl,_⟩ | ⟨k,rfl⟩
 ·exact ⟨_,by simp [Instr.sliceAt,Instr.slice,run_underlying hte,Instr.sliceBounds,Instr.sliceBound,asIntOf,sizeOf,typeInfo,hi];rfl⟩
 ·exact ⟨_,by simp [Instr.sliceAt,Instr.slice,run_underlying hte,Instr.sliceBounds,Instr.sliceBound,asIntOf,sizeOf,typeInfo,hi];rfl⟩

theorem run_str {t:TypeId} {s:ByteArray} {l h:Int} {plo phi:Option Value} (ht:P.underlying t=some .string)
  (hlo:(plo=none /\ l=0) \/ ∃ k,plo=some (.int k l)) (hhi:(phi=none /\ h=s.size) \/ ∃ k,phi=some (.int k h)) (h0:0 <= l) (h1:l <= h) (h2:h <= s.size) :
  (Instr.sliceAt t (.string s) plo phi none).run P w=.ok (.string (s.extract l.toNat h.toNat)) w:=by
 rcases hlo with ⟨rfl,rfl⟩ | ⟨k,rfl⟩ <;> rcases hhi with ⟨rfl,rfl⟩ | ⟨k',rfl⟩
 ·simp [Instr.sliceAt,Instr.slice,run_underlying ht,Instr.sliceBounds]
 ·have h0':0 <= h:=h1
  simp [Instr.sliceAt,Instr.slice,run_underlying ht,Instr.sliceBounds,Instr.sliceBound,asIntOf,h0',h2]
 ·have h1':l <= (s.size:Int):=h1
  simp [Instr.sliceAt,Instr.slice,run_underlying ht,Instr.sliceBounds,Instr.sliceBound,asIntOf,h0,h1']
 ·have h0':0 <= h:=by omega
  have h1':l <= (h.toNat:Int):=by omega
  simp [Instr.sliceAt,Instr.slice,run_underlying ht,Instr.sliceBounds,Instr.sliceBound,asIntOf,h0,h0',h2,h1']
  try omega

theorem map_one_flatten:∀ l:List D,(l.map fun d=>[d]).flatten=l
 | []=>rfl
 | x :: l=>by rw [List.map_cons,List.flatten_cons,map_one_flatten l];rfl

theorem ro_slice {C:Ctx} {sz i:Nat} {rows:List (List D)} {v:Value} (hp:PtrRel C (.ro sz rows i 0) v) (hi:i < rows.length) :
  ∃ a,v=.pointer (some a) /\ ∃ S,Rep C.w (.sl 1 ((rows.getD i []).map fun d=>[d])) (.slice (some a) sz sz) S /\ ∀ x ∈ S,¬ C.M x:=by
 obtain ⟨b,off,vs,S,rfl,hb,hsz,hl,hc,hM⟩:=hp
 refine ⟨_,rfl,?_⟩
 have hri:(rows.getD i []).length=sz:=by
  rw [List.getD_eq_getElem?_getD,List.getElem?_eq_getElem hi]
  exact hsz _ (List.getElem_mem hi)
 have hlen:((rows.getD i []).map fun d=>[d]).length=sz:=by rw [List.length_map,hri]
 have e1:rows=rows.take i ++ (rows.getD i [] :: rows.drop (i + 1)):=by
  rw [List.getD_eq_getElem?_getD,List.getElem?_eq_getElem hi]
  show rows=rows.take i ++ (rows[i] :: rows.drop (i + 1))
  rw [<- List.drop_eq_getElem_cons hi,List.take_append_drop]
 have hA:(rows.take i).flatten.length=i * sz:=by
  rw [flatten_length (sz:=sz) (fun r hr=>hsz r (List.mem_of_mem_take hr)),List.length_take,Nat.min_eq_left (by omega)]
 rw [e1,List.flatten_append,List.flatten_cons] at hl
 obtain ⟨S1,S2,rfl,g1,g2⟩:=RepL.split _ hl
 obtain ⟨S3,S4,rfl,g3,g4⟩:=RepL.split _ g2
 by_cases h0:sz=0
 ·subst h0
  rw [List.eq_nil_of_length_eq_zero hlen]
  exact ⟨[],.nil _ _ _,by simp⟩
 ·have key:=Rep.sl (w:=C.w) 1 ((rows.getD i []).map fun d=>[d]) b (off + (i * sz + 0)) sz _ S3 hb (by simp) (by rw [map_one_flatten];exact g3) (fun j v hj=>by
   rw [List.getElem?_take] at hj
   split at hj
   ·rw [List.getElem?_drop,hA] at hj
    rw [Nat.add_zero,Nat.add_assoc]
    exact hc _ v hj
   ·cases hj) (by rw [hlen];exact Nat.le_refl _)
  rw [hlen] at key
  refine ⟨_,key,fun x hx=>hM x ?_⟩
  cases hx with
  | head=>exact List.mem_cons_self ..
  | tail _ hx=>exact List.mem_cons_of_mem _ (List.mem_append_right _ (List.mem_append_left _ hx))

theorem run_arr_all {t e:TypeId} {n s:Nat} {a:Addr} (ht:ta P t=some (n,e,s)):(Instr.sliceAt t (.pointer (some a)) none none none).run P w=.ok (.slice (some (if n=0 then a else a)) n n) w:=by
 obtain ⟨hu,i,hi,hs⟩:=ta_spec ht
 simp [Instr.sliceAt,Instr.sureAddr,run_underlying hu,Instr.sliceBounds,sizeOf,typeInfo,hi,Addr.add]

theorem sliceS_sound (h:SR B N st β φ a w) {t:TypeId} {x:AV} {lo hi mx:Option AV} {q:Prop} {r:Option AV} {p:Value} {plo phi pmx:Option Value} (hs:sliceS P st t x lo hi mx=some (q,r,st')) (hq:q)
  (hx:AVRel (st.ctx w β φ) x p) (hlo:OptRel (st.ctx w β φ) lo plo) (hhi:OptRel (st.ctx w β φ) hi phi) (hmx:OptRel (st.ctx w β φ) mx pmx) :
  ResM P B N st st' β φ a w r (Instr.sliceAt t p plo phi pmx):=by
 have le0:(st.ctx w β φ).Le (st.ctx w β φ):=⟨Nat.le_refl _,fun _ _ _=>rfl,fun _ h=>.inl h,fun o _ _=>⟨.refl _,fun _=>rfl⟩,Nat.le_refl _⟩
 unfold sliceS at hs
 split at hs
 ·rename_i k3 m
  cases pmx with
  | none=>exact hmx.elim
  | some pm =>
   obtain ⟨S,hm1,_⟩:=hmx
   cases hm1
   split at hs
   ·rename_i l k2 hh ei hl ht
    cases phi with
    | none=>exact hhi.elim
    | some ph =>
     obtain ⟨S,hm1,_⟩:=hhi
     cases hm1
     obtain ⟨hte,i,hi,_⟩:=te_spec (P:=P) (t:=t) (e:=ei.1) (s:=ei.2.1) (y:=ei.2.2) ht
     have key:∀ {base:Option Addr} {len cap:Nat},p=.slice base len cap -> l=0 /\ hh=0 /\ m=0 ->
       ResM P B N st st β φ a w (some (.one .emp)) (Instr.sliceAt t p plo (some (.int k2 hh)) (some (.int k3 m))):=by
      intro base len cap hp hz
      subst hp
      obtain ⟨rfl,rfl,rfl⟩:=hz
      obtain ⟨b,hb⟩:=run_sl3 (P:=P) (w:=w) (base:=base) (len:=len) (cap:=cap) (k2:=k2) (k3:=k3) hte hi (bound_of hl hlo)
      exact ⟨β,φ,w,le0,h,rfl,_,_,rfl,hb,⟨b,rfl⟩⟩
     split at hs
     ·rename_i o
      obtain ⟨hn,hp⟩:=hx
      split at hs
      ·rename_i eo
       simp only [Option.some.injEq,Prod.mk.injEq] at hs
       obtain ⟨rfl,rfl,rfl⟩:=hs
       rw [show (st.ctx w β φ).ob o=_ from eo] at hp
       exact key hp hq
      ·rename_i eo
       simp only [Option.some.injEq,Prod.mk.injEq] at hs
       obtain ⟨rfl,rfl,rfl⟩:=hs
       rw [show (st.ctx w β φ).ob o=_ from eo] at hp
       exact key hp hq
      ·cases hs
     ·simp only [Option.some.injEq,Prod.mk.injEq] at hs
      obtain ⟨rfl,rfl,rfl⟩:=hs
      obtain ⟨S,hr,_⟩:=hx
      cases hr <;> exact key rfl hq
     ·simp only [Option.some.injEq,Prod.mk.injEq] at hs
      obtain ⟨rfl,rfl,rfl⟩:=hs
      obtain ⟨b,rfl⟩:=hx
      exact key rfl hq
     ·cases hs
   ·cases hs
 ·cases hs
 ·cases pmx with
  | some pm=>exact hmx.elim
  | none =>
   split at hs
   ·rename_i s
    split at hs
    ·rename_i l hh hl hh'
     split at hs
     ·rename_i ht
      simp only [Option.some.injEq,Prod.mk.injEq] at hs
      obtain ⟨rfl,rfl,rfl⟩:=hs
      obtain ⟨S,hr,_⟩:=hx
      cases hr
      exact ⟨β,φ,w,le0,h,rfl,_,_,rfl,run_str (tstr_spec ht) (bound_of hl hlo) (bound_of hh' hhi) hq.1 hq.2.1 hq.2.2,leaf_flat (.str _)⟩
     ·cases hs
    ·cases hs
   ·rename_i sz rows
    split at hs
    ·rename_i l hh e s y hl hh' ht
     simp only [Option.some.injEq,Prod.mk.injEq] at hs
     obtain ⟨rfl,rfl,rfl⟩:=hs
     obtain ⟨rfl,h0,h1,h2⟩:=hq
     obtain ⟨hte,i,hi,hsz,_⟩:=te_spec ht
     obtain ⟨S,hr,hM⟩:=hx
     have hr0:Rep w (.sl sz rows) p S:=hr
     have hcap:∃ base cap,p=.slice base rows.length cap /\ rows.length <= cap:=by
      cases hr0 with
      | nil _ a cap=>exact ⟨_,_,rfl,by simp⟩
      | sl _ _ b off cap vs S hb hsz hl hc hcap=>exact ⟨_,_,rfl,hcap⟩
     obtain ⟨base,cap,rfl,hcap⟩:=hcap
     obtain ⟨S',hr',hsub⟩:=rep_part hr0 (l:=l.toNat) (h:=hh.toNat) (by omega) (by omega)
     refine ⟨β,φ,w,le0,h,rfl,_,_,rfl,run_sl hte hi (bound_of hl hlo) (bound_of hh' hhi) h0 h1 h2 hcap,S',?_,fun x hx=>hM x (hsub x hx)⟩
     rw [hsz]
     exact hr'
    ·cases hs
   ·rename_i o
    obtain ⟨hn,hp⟩:=hx
    split at hs
    ·rename_i sz sep rows eo
     rw [show (st.ctx w β φ).ob o=_ from eo] at hp
     simp only at hp
     subst hp
     split at hs
     ·rename_i l hh e s y hl hh' ht
      simp only [Option.some.injEq,Prod.mk.injEq] at hs
      obtain ⟨rfl,rfl,rfl⟩:=hs
      obtain ⟨rfl,h0,h1,h2⟩:=hq
      obtain ⟨hte,i,hi,hsz,_⟩:=te_spec ht
      have ho:=h.objs o
      unfold ObjRel at ho
      rw [show (st.ctx w β φ).ob o=_ from eo] at ho
      have hcap:rows.length <= (β o).cap:=ho.2.1
      refine ⟨β,φ,w,le0,h,rfl,_,_,rfl,run_sl' hte hi (bound_of hl hlo) (bound_of hh' hhi) h0 h1 (by show hh <= ((β o).cap:Int);omega),hn,?_⟩
      rw [show (st.ctx w β φ).ob o=_ from eo]
      refine ⟨by omega,_,rfl,fun hlt=>?_⟩
      rw [if_neg (by have:l.toNat < (β o).cap:=hlt;show ¬ (β o).cap=l.toNat;omega),hsz]
     ·cases hs
    ·rename_i sz m rows eo
     rw [show (st.ctx w β φ).ob o=_ from eo] at hp
     simp only at hp
     subst hp
     split at hs
     ·rename_i l hh e s y hl hh' ht
      simp only [Option.some.injEq,Prod.mk.injEq] at hs
      obtain ⟨rfl,rfl,rfl⟩:=hs
      obtain ⟨rfl,h0,h1,h2⟩:=hq
      obtain ⟨hte,i,hi,hsz,_⟩:=te_spec ht
      have ho:=h.objs o
      unfold ObjRel at ho
      rw [show (st.ctx w β φ).ob o=_ from eo] at ho
      have hcap:rows.length <= (β o).cap:=Nat.le_of_eq ho.2.2.1
      refine ⟨β,φ,w,le0,h,rfl,_,_,rfl,run_sl' hte hi (bound_of hl hlo) (bound_of hh' hhi) h0 h1 (by show hh <= ((β o).cap:Int);omega),hn,?_⟩
      rw [show (st.ctx w β φ).ob o=_ from eo]
      refine ⟨by omega,_,rfl,fun hlt=>?_⟩
      rw [if_neg (by have:l.toNat < (β o).cap:=hlt;show ¬ (β o).cap=l.toNat;omega),hsz]
     ·cases hs
    ·rename_i sz rows eo
     rw [show (st.ctx w β φ).ob o=_ from eo] at hp
     simp only at hp
     subst hp
     split at hs
     ·rename_i l hh e s y hl hh' ht
      simp only [Option.some.injEq,Prod.mk.injEq] at hs
      obtain ⟨rfl,rfl,rfl⟩:=hs
      obtain ⟨rfl,h0,h1,h2⟩:=hq
      obtain ⟨hte,i,hi,hsz,_⟩:=te_spec ht
      have ho:=h.objs o
      unfold ObjRel at ho
      rw [show (st.ctx w β φ).ob o=_ from eo] at ho
      obtain ⟨_,_,S,hr,hM⟩:=ho
      have hr0:Rep w (.sl sz rows) (.slice (β o).base rows.length (β o).cap) S:=hr
      have hcap:rows.length <= (β o).cap:=by
       generalize hln:rows.length=ln at hr0 ⊢
       generalize (β o).base=base at hr0
       generalize (β o).cap=cap at hr0 ⊢
       cases hr0 with
       | nil=>omega
       | sl _ _ b off _ vs S hb hsz hl hc hcap=>omega
      obtain ⟨S',hr',hsub⟩:=rep_part hr0 (l:=l.toNat) (h:=hh.toNat) (by omega) (by omega)
      refine ⟨β,φ,w,le0,h,rfl,_,_,rfl,run_sl hte hi (bound_of hl hlo) (bound_of hh' hhi) h0 h1 h2 hcap,S',?_,fun x hx=>hM x (hsub x hx)⟩
      rw [hsz]
      exact hr'
     ·cases hs
    ·cases hs
   ·rename_i o i0 n0
    obtain ⟨hn,hp⟩:=hx
    have key:∀ {sz:Nat} {rows:List (List D)} {l hh:Int} {ei:TypeId × Nat × Nat} {bs:Option Addr},p=.slice bs n0 ((β o).cap - i0) -> (i0 < (β o).cap -> bs=(β o).base.map (·.add (i0 * sz))) -> rows.length <= (β o).cap -> i0 + n0 <= rows.length ->
      (∀ x,(β o).base=some x -> x.spot=none) -> boundS 0 lo=some l -> boundS n0 hi=some hh -> te P t=some ei -> sz=ei.2.1 -> 0 <= l -> l <= hh -> i0 + hh <= rows.length ->
      ∃ bs' cap',(Instr.sliceAt t p plo phi none).run P w=.ok (.slice bs' (hh.toNat - l.toNat) cap') w /\ cap'=(β o).cap - (i0 + l.toNat) /\ (i0 + l.toNat < (β o).cap -> bs'=(β o).base.map (·.add ((i0 + l.toNat) * sz))):=by
     intro sz rows l hh ei bs hp' hbs hcap hfit hspot hl hh' ht hsz h0 h1 h2
     obtain ⟨hte,i,hi,hsz',_⟩:=te_spec (P:=P) (t:=t) (e:=ei.1) (s:=ei.2.1) (y:=ei.2.2) ht
     subst hp'
     refine ⟨_,_,run_sl' hte hi (bound_of hl hlo) (bound_of hh' hhi) h0 h1 (by omega),by omega,fun hlt=>?_⟩
     rw [if_neg (by omega),hbs (by omega),hsz',<- hsz]
     cases hb:(β o).base with
     | none=>rfl
     | some x =>
      have hx:=hspot x hb
      obtain ⟨xb,xo,xs⟩:=x
      simp only at hx
      subst hx
      simp only [Option.map_some,Addr.add_lit,Nat.add_mul,Nat.add_assoc]
    have ho:=h.objs o
    unfold ObjRel at ho
    split at hs
    ·rename_i sz sep rows eo
     rw [show (st.ctx w β φ).ob o=_ from eo] at hp ho
     obtain ⟨hfit,bs,hp',hbs⟩:=hp
     split at hs
     ·rename_i l hh e s y hl hh' ht
      simp only [Option.some.injEq,Prod.mk.injEq] at hs
      obtain ⟨rfl,rfl,rfl⟩:=hs
      obtain ⟨rfl,h0,h1,h2⟩:=hq
      by_cases hc0:i0 < (β o).cap
      ·obtain ⟨bs',cap',g1,g2,g3⟩:=key hp' hbs ho.2.1 hfit (fun x hx=>by
        rcases ho.2.2 with ⟨_,hz⟩ | ⟨b,T,S,E,vs,hb,_⟩
        ·have hz':(β o).cap=0:=hz
         omega
        ·have hb':(β o).base=some ⟨b,0,none⟩:=hb
         rw [hb'] at hx;cases hx;rfl) hl hh' ht rfl h0 h1 h2
       subst g2
       refine ⟨β,φ,w,le0,h,rfl,_,_,rfl,g1,hn,?_⟩
       rw [show (st.ctx w β φ).ob o=_ from eo]
       exact ⟨by omega,bs',rfl,g3⟩
      ·obtain ⟨hte,i,hi,hsz',_⟩:=te_spec ht
       subst hp'
       refine ⟨β,φ,w,le0,h,rfl,_,_,rfl,run_sl' hte hi (bound_of hl hlo) (bound_of hh' hhi) h0 h1 (by have:=ho.2.1;have:rows.length <= (β o).cap:=this;omega),hn,?_⟩
       rw [show (st.ctx w β φ).ob o=_ from eo]
       refine ⟨by omega,_,congrArg (Value.slice _ _) (Nat.sub_sub _ _ _),fun hlt=>?_⟩
       have:i0 + l.toNat < (β o).cap:=hlt
       omega
     ·cases hs
    ·rename_i sz m rows eo
     rw [show (st.ctx w β φ).ob o=_ from eo] at hp ho
     obtain ⟨hfit,bs,hp',hbs⟩:=hp
     have hcap:rows.length=(β o).cap:=ho.2.2.1
     split at hs
     ·rename_i l hh e s y hl hh' ht
      simp only [Option.some.injEq,Prod.mk.injEq] at hs
      obtain ⟨rfl,rfl,rfl⟩:=hs
      obtain ⟨rfl,h0,h1,h2⟩:=hq
      by_cases hc0:i0 < (β o).cap
      ·obtain ⟨bs',cap',g1,g2,g3⟩:=key hp' hbs (Nat.le_of_eq hcap) hfit (fun x hx=>by
        rcases ho.2.2.2 with ⟨_,hz⟩ | ⟨b,T,vs,hb,_⟩
        ·have hz':(β o).cap=0:=hz
         omega
        ·have hb':(β o).base=some ⟨b,0,none⟩:=hb
         rw [hb'] at hx;cases hx;rfl) hl hh' ht rfl h0 h1 h2
       subst g2
       refine ⟨β,φ,w,le0,h,rfl,_,_,rfl,g1,hn,?_⟩
       rw [show (st.ctx w β φ).ob o=_ from eo]
       exact ⟨by omega,bs',rfl,g3⟩
      ·obtain ⟨hte,i,hi,hsz',_⟩:=te_spec ht
       subst hp'
       refine ⟨β,φ,w,le0,h,rfl,_,_,rfl,run_sl' hte hi (bound_of hl hlo) (bound_of hh' hhi) h0 h1 (by omega),hn,?_⟩
       rw [show (st.ctx w β φ).ob o=_ from eo]
       refine ⟨by omega,_,congrArg (Value.slice _ _) (Nat.sub_sub _ _ _),fun hlt=>?_⟩
       have:i0 + l.toNat < (β o).cap:=hlt
       omega
     ·cases hs
    ·cases hs
   ·split at hs
    ·rename_i l hh ei hl hh' ht
     simp only [Option.some.injEq,Prod.mk.injEq] at hs
     obtain ⟨rfl,rfl,rfl⟩:=hs
     obtain ⟨rfl,rfl⟩:=hq
     obtain ⟨hte,i,hi,_⟩:=te_spec (P:=P) (t:=t) (e:=ei.1) (s:=ei.2.1) (y:=ei.2.2) ht
     obtain ⟨b,rfl⟩:=hx
     have hr:=run_sl (P:=P) (w:=w) (base:=b) (len:=0) (cap:=0) hte hi (bound_of hl hlo) (bound_of hh' hhi) (Int.le_refl _) (Int.le_refl _) (by simp) (Nat.le_refl _)
     exact ⟨β,φ,w,le0,h,rfl,_,_,rfl,hr,⟨_,rfl⟩⟩
    ·cases hs
   ·split at hs
    ·rename_i n e s ht
     simp only [Option.some.injEq,Prod.mk.injEq] at hs
     obtain ⟨rfl,rfl,rfl⟩:=hs
     obtain ⟨rfl,rfl,rfl,hi⟩:=hq
     cases plo with
     | some _=>exact hlo.elim
     | none=>cases phi with
      | some _=>exact hhi.elim
      | none =>
       obtain ⟨a',rfl,S,hr,hM⟩:=ro_slice hx hi
       have hrun:=run_arr_all (P:=P) (w:=w) (a:=a') ht
       rw [ite_self] at hrun
       exact ⟨β,φ,w,le0,h,rfl,_,_,rfl,hrun,S,hr,hM⟩
    ·cases hs
   ·cases hs
end
end Go.Abs
