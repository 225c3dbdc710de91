/- New vectors: make, slice literals, append. -/
import Derived.Test.YtcnddedeeplbcaaGreatAbsStore
namespace Go.Abs
set_option linter.unusedVariables false

section
variable {P:Program} {B:Base} {N:Nat} {st st':St} {β:Nat -> Info} {φ:Nat -> List Nat} {a:Act} {w w':World}

theorem SR.newVec (h:SR B N st β φ a w) {ks:List Nat} (hks:∀ o ∈ ks,o < st.next) (hfrm:Frm w (fun b=>∃ o,o ∈ ks /\ b ∈ φ o) w')
  {sz cap b:Nat} {sep:Bool} {rows:List (List D)} {T:TypeId} {S E:List Nat} {vs:Array Value} (hsz:∀ r ∈ rows,r.length=sz) (hcap:rows.length <= cap)
  (hheap:w'.heap[b]?=some (.cells vs T (0,0))) (hvs:Room w' vs (rows.length * sz) (cap * sz)) (hrep:RepL w' rows.flatten (vs.toList.take (rows.length * sz)) S)
  (hE:∀ x ∈ b :: E,x < w'.heap.size /\ (w.heap.size <= x \/ ∃ o,o ∈ ks /\ x ∈ φ o)) (hnd:(b :: E).Nodup)
  (hS:if sep then S.Nodup /\ (∀ x ∈ S,x ∈ E) /\ OwnL w' rows.flatten (vs.toList.take (rows.length * sz)) S else ∀ x ∈ S,x ∉ b :: E /\ ∀ o,x ∈ φ o -> o ∈ ks) :
  ∃ β' φ',(st.ctx w β φ).Le (((killAll st ks).addObj (.vec sz sep rows)).ctx w' β' φ') /\ SR B N ((killAll st ks).addObj (.vec sz sep rows)) β' φ' a w' /\
   AVRel (((killAll st ks).addObj (.vec sz sep rows)).ctx w' β' φ') (.one (.own st.next)) (.slice (some ⟨b,0,none⟩) rows.length cap):=by
 have hnk:st.next ∉ ks:=fun hm=>Nat.lt_irrefl _ (hks _ hm)
 have hob:∀ o,o ≠ st.next -> o ∉ ks -> ((killAll st ks).addObj (.vec sz sep rows)).obj o=st.obj o:=fun o h1 h2 =>
  (St.obj_addObj_ne _ _ (by rw [killAll_next];exact h1)).trans (killAll_out ks st o h2)
 have hobn:((killAll st ks).addObj (.vec sz sep rows)).obj st.next=.vec sz sep rows:=by
  have:=St.obj_addObj_same (killAll st ks) (.vec sz sep rows)
  rwa [killAll_next] at this
 have hobk:∀ o,o ∈ ks -> ((killAll st ks).addObj (.vec sz sep rows)).obj o=.dead:=fun o ho =>
  (St.obj_addObj_ne _ _ (by rw [killAll_next];exact fun e=>hnk (e ▸ ho))).trans (killAll_in ks st o ho)
 let β':=upd β st.next ⟨some ⟨b,0,none⟩,cap⟩
 let φ':Nat -> List Nat:=fun o=>if o=st.next then b :: E else if o ∈ ks then [] else φ o
 have hφn:φ' st.next=b :: E:=if_pos rfl
 have hφk:∀ o,o ∈ ks -> φ' o=[]:=fun o ho=>by
  have hne:o ≠ st.next:=fun e=>hnk (e ▸ ho)
  show (if o=st.next then b :: E else if o ∈ ks then [] else φ o)=[]
  rw [if_neg hne,if_pos ho]
 have hφo:∀ o,o ≠ st.next -> o ∉ ks -> φ' o=φ o:=fun o h1 h2=>by
  show (if o=st.next then b :: E else if o ∈ ks then [] else φ o)=φ o
  rw [if_neg h1,if_neg h2]
 have hβn:β' st.next=⟨some ⟨b,0,none⟩,cap⟩:=upd_same ..
 obtain ⟨le,sr⟩:=h.change (st':=(killAll st ks).addObj (.vec sz sep rows)) (β':=β') (φ':=φ') (w':=w') (fun o=>o=st.next \/ o ∈ ks)
  (killAll_env ks st) (by show st.next <= (killAll st ks).next + 1;rw [killAll_next];omega)
  (fun o ho=>hob o (fun e=>ho (.inl e)) (fun e=>ho (.inr e))) (fun o ho=>upd_ne _ _ (by omega)) (fun o ho=>hφo o (fun e=>ho (.inl e)) (fun e=>ho (.inr e)))
  (fun o ho=>by
    have ho':(killAll st ks).next + 1 <= o:=ho
    rw [killAll_next] at ho'
    by_cases hk:o ∈ ks
    ·exact hobk o hk
    ·rw [hob o (by omega) hk];exact h.dead o (by omega))
  (fun o ho hl=>by
    rcases ho with ho | ho
    ·omega
    ·rw [hobk o ho];exact ⟨by cases st.obj o <;> trivial,fun hd=>absurd rfl hd⟩)
  (hfrm.mono (fun b _ ⟨o,ho,hb⟩=>⟨o,.inr ho,hb⟩))
  (fun le o ho=>by
    unfold ObjRel
    rcases ho with ho | ho
    ·subst ho
     rw [show (((killAll st ks).addObj (.vec sz sep rows)).ctx w' β' φ').ob st.next=_ from hobn]
     refine ⟨hsz,by show rows.length <= (β' st.next).cap;rw [hβn];exact hcap,.inr ⟨b,T,S,E,vs,by show (β' st.next).base=_;rw [hβn],hheap,by show Room w' vs _ ((β' st.next).cap * sz);rw [hβn];exact hvs,hrep,hφn,?_⟩⟩
     cases sep with
     | true=>exact hS
     | false =>
      intro x hx hm
      obtain ⟨o,ho⟩:=hm
      obtain ⟨s1,s2⟩:=hS x hx
      by_cases h1:o=st.next
      ·subst h1;exact s1 (hφn ▸ ho)
      ·by_cases h2:o ∈ ks
       ·rw [hφk o h2] at ho;cases ho
       ·rw [hφo o h1 h2] at ho;exact h2 (s2 o ho)
    ·rw [show (((killAll st ks).addObj (.vec sz sep rows)).ctx w' β' φ').ob o=_ from hobk o ho]
     exact hφk o ho)
  (fun o ho=>by
    rcases ho with ho | ho
    ·subst ho;rw [hφn];exact hnd
    ·rw [hφk o ho];exact List.nodup_nil)
  (fun o ho x hx=>by
    rcases ho with ho | ho
    ·subst ho
     rw [hφn] at hx
     obtain ⟨h1,h2⟩:=hE x hx
     exact ⟨h1,h2.imp id (fun ⟨o,ho,hx⟩=>⟨o,.inr ho,hx⟩)⟩
    ·rw [hφk o ho] at hx;cases hx)
  (fun o o' ho ho' hne x hx hx'=>by
    rcases ho with ho | ho
    ·rcases ho' with ho' | ho'
     ·exact hne (ho.trans ho'.symm)
     ·rw [hφk o' ho'] at hx';cases hx'
    ·rw [hφk o ho] at hx;cases hx)
 refine ⟨β',φ',le,sr,⟨by show st.next < (killAll st ks).next + 1;rw [killAll_next];omega,?_⟩⟩
 rw [show (((killAll st ks).addObj (.vec sz sep rows)).ctx w' β' φ').ob st.next=_ from hobn]
 show Value.slice _ _ _=.slice (β' st.next).base rows.length (β' st.next).cap
 rw [hβn]

theorem replicate_range (z:Array Value):∀ n:Nat,(madeCells z (n * z.size)).toList=(List.replicate n z.toList).flatten:=by
 intro n
 unfold madeCells
 rw [Array.toList_map,Array.toList_range]
 induction n with
 | zero=>simp
 | succ n ih =>
  rw [Nat.add_mul,Nat.one_mul,List.range_add,List.map_append,ih,List.replicate_succ',List.flatten_concat]
  congr 1
  rw [List.map_map]
  apply List.ext_getElem?
  intro k
  by_cases hk:k < z.size
  ·rw [List.getElem?_map,List.getElem?_range hk]
   simp only [Option.map_some,Function.comp]
   rw [show (n * z.size + k) % z.size=k from by rw [Nat.add_comm,Nat.add_mul_mod_self_right,Nat.mod_eq_of_lt hk]]
   simp [hk]
  ·rw [List.getElem?_eq_none (by simp;omega),List.getElem?_eq_none (by simp;omega)]

theorem repL_replicate {w:World} {zs:List D} {vs:List Value} (h:RepL w zs vs []):∀ n:Nat,RepL w (List.replicate n zs).flatten (List.replicate n vs).flatten []
 | 0=>.nil
 | n + 1=>by
  have:=h.append (repL_replicate h n)
  simpa [List.replicate_succ] using this

theorem makeS_sound (h:SR B N st β φ a w) {t:TypeId} {u v:AV} {q:Prop} {r:Option AV} {p1 p2:Value} (hs:makeS P st t u v=some (q,r,st')) (hq:q)
  (hu:AVRel (st.ctx w β φ) u p1) (hv:AVRel (st.ctx w β φ) v p2):ResM P B N st st' β φ a w r (Instr.makeSlice t p1 p2):=by
 unfold makeS at hs
 split at hs
 ·rename_i k l k' c
  split at hs
  ·rename_i e s y ht
   split at hs
   ·rename_i zs hz
    simp only [Option.some.injEq,Prod.mk.injEq] at hs
    obtain ⟨rfl,rfl,rfl⟩:=hs
    obtain ⟨rfl,h0,hby,h63,hzl⟩:=hq
    obtain ⟨S,h1,_⟩:=hu
    obtain ⟨S',h2,_⟩:=hv
    cases h1
    cases h2
    obtain ⟨hte,i,hi,hsz,hyy⟩:=te_spec ht
    obtain ⟨i',z,hi',hzv,hrz,hzs,hzz⟩:=tz_spec (w:=w) hz
    rw [hi] at hi'
    cases hi'
    have hrun:=run_make (P:=P) w t e i z hte hi hzv k k' l l h0 (Int.le_refl _) (by rw [hyy];exact hby) h63
    have hzs':z.cells.size=s:=by omega
    have hcells:madeCells z.cells (l.toNat * i.size)=madeCells z.cells (l.toNat * z.cells.size):=by rw [hzs]
    have hlist:(madeCells z.cells (l.toNat * i.size)).toList=(List.replicate l.toNat z.cells.toList).flatten:=by rw [hcells,replicate_range]
    have hsize:(madeCells z.cells (l.toNat * i.size)).size=l.toNat * s:=by rw [size_madeCells,hsz]
    have hz0:RepL (w.alloc (.cells (madeCells z.cells (l.toNat * i.size)) e)) zs z.cells.toList []:=hrz.frm (by simp) (by simp)
    have hrl:RepL (w.alloc (.cells (madeCells z.cells (l.toNat * i.size)) e)) (List.replicate l.toNat zs).flatten ((madeCells z.cells (l.toNat * i.size)).toList.take ((List.replicate l.toNat zs).length * s)) []:=by
     rw [List.length_replicate,List.take_of_length_le (by rw [Array.length_toList,hsize];omega),hlist];exact repL_replicate hz0 _
    have hol:OwnL (w.alloc (.cells (madeCells z.cells (l.toNat * i.size)) e)) (List.replicate l.toNat zs).flatten ((madeCells z.cells (l.toNat * i.size)).toList.take ((List.replicate l.toNat zs).length * s)) []:=by
     rw [List.length_replicate,List.take_of_length_le (by rw [Array.length_toList,hsize];omega),hlist];exact (OwnL.of_zero hzz).replicate _
    obtain ⟨β',φ',le,sr,hp⟩:=h.newVec (ks:=[]) (w':=w.alloc (.cells (madeCells z.cells (l.toNat * i.size)) e)) (by simp) ((Frm.refl w _).alloc _) (sz:=s) (cap:=l.toNat) (b:=w.heap.size) (sep:=true)
     (rows:=List.replicate l.toNat zs) (S:=[]) (E:=[]) (T:=e) (vs:=madeCells z.cells (l.toNat * i.size)) (fun r hr=>by rw [List.eq_of_mem_replicate hr];exact hzl) (by simp) (heap_alloc_new ..) ⟨hsize,[],by rw [List.length_replicate,List.drop_of_length_le (by rw [Array.length_toList,hsize];omega)];exact .nil⟩
     hrl (by simp) (by simp) (by simp only [if_true];exact ⟨List.nodup_nil,by simp,hol⟩)
    simp only [List.length_replicate] at hp
    exact ⟨β',φ',_,le,sr,rfl,_,_,rfl,hrun,hp⟩
   ·cases hs
  ·cases hs
 ·cases hs

theorem makeAt (h:SR B N st β φ a w) {t e:TypeId} {s y:Nat} {zs:List D} {k k':IntKind} {l:Int} (ht:te P t=some (e,s,y)) (hz:tz P e=some zs) (h0:0 <= l) (hby:(y:Int) * l <= 281474976710656) (h63:l <= 9223372036854775807) (hzl:zs.length=s)
  {id:Nat} (hid:id < st.next) (hB:B.n <= id) (hh:st.obj id=.hole) :
  ∃ β' φ' w' z,SR B N (st.setObj id (.vec s true (List.replicate l.toNat zs))) β' φ' a w' /\ (Instr.makeSlice t (.int k l) (.int k' l)).run P w=.ok z w' /\ AVRel ((st.setObj id (.vec s true (List.replicate l.toNat zs))).ctx w' β' φ') (.one (.own id)) z:=by
 obtain ⟨hte,i,hi,hsz,hyy⟩:=te_spec ht
 obtain ⟨i',z,hi',hzv,hrz,hzs,hzz⟩:=tz_spec (w:=w) hz
 rw [hi] at hi'
 cases hi'
 have hrun:=run_make (P:=P) w t e i z hte hi hzv k k' l l h0 (Int.le_refl _) (by rw [hyy];exact hby) h63
 have hzs':z.cells.size=s:=by omega
 have hcells:madeCells z.cells (l.toNat * i.size)=madeCells z.cells (l.toNat * z.cells.size):=by rw [hzs]
 have hlist:(madeCells z.cells (l.toNat * i.size)).toList=(List.replicate l.toNat z.cells.toList).flatten:=by rw [hcells,replicate_range]
 have hsize:(madeCells z.cells (l.toNat * i.size)).size=l.toNat * s:=by rw [size_madeCells,hsz]
 have hz0:RepL (w.alloc (.cells (madeCells z.cells (l.toNat * i.size)) e)) zs z.cells.toList []:=hrz.frm (by simp) (by simp)
 have hrl:RepL (w.alloc (.cells (madeCells z.cells (l.toNat * i.size)) e)) (List.replicate l.toNat zs).flatten ((madeCells z.cells (l.toNat * i.size)).toList.take ((List.replicate l.toNat zs).length * s)) []:=by
  rw [List.length_replicate,List.take_of_length_le (by rw [Array.length_toList,hsize];omega),hlist];exact repL_replicate hz0 _
 have hol:OwnL (w.alloc (.cells (madeCells z.cells (l.toNat * i.size)) e)) (List.replicate l.toNat zs).flatten ((madeCells z.cells (l.toNat * i.size)).toList.take ((List.replicate l.toNat zs).length * s)) []:=by
  rw [List.length_replicate,List.take_of_length_le (by rw [Array.length_toList,hsize];omega),hlist];exact (OwnL.of_zero hzz).replicate _
 generalize madeCells z.cells (l.toNat * i.size)=cs at *
 have hb:∀ b ∈ [w.heap.size],b < (w.alloc (.cells cs e)).heap.size /\ w.heap.size <= b:=by simp
 have hob:(st.setObj id (.vec s true (List.replicate l.toNat zs))).obj id=.vec s true (List.replicate l.toNat zs):=St.obj_setObj_same st _ _
 obtain ⟨le,sr⟩:=h.bring (w':=w.alloc (.cells cs e)) (.vec s true (List.replicate l.toNat zs)) ⟨some ⟨w.heap.size,0,none⟩,l.toNat⟩ [w.heap.size] hid hB hh ((Frm.refl w _).alloc _) hb (by simp) (fun le=>by
  unfold ObjRel
  rw [show ((st.setObj id (.vec s true (List.replicate l.toNat zs))).ctx (w.alloc (.cells cs e)) (upd β id ⟨some ⟨w.heap.size,0,none⟩,l.toNat⟩) (upd φ id [w.heap.size])).ob id=_ from hob]
  refine ⟨fun r hr=>by rw [List.eq_of_mem_replicate hr];exact hzl,by show (List.replicate l.toNat zs).length <= (upd β id _ id).cap;rw [upd_same];simp,.inr ⟨w.heap.size,e,[],[],cs,by show (upd β id _ id).base=_;rw [upd_same],heap_alloc_new ..,?_,hrl,upd_same ..,?_⟩⟩
  ·show Room _ cs _ ((upd β id _ id).cap * s)
   rw [upd_same]
   exact ⟨hsize,[],by rw [List.length_replicate,List.drop_of_length_le (by rw [Array.length_toList,hsize];omega)];exact .nil⟩
  ·simp only [if_true]
   exact ⟨List.nodup_nil,by simp,hol⟩)
 refine ⟨_,_,w.alloc (.cells cs e),_,sr,hrun,⟨hid,?_⟩⟩
 rw [show ((st.setObj id (.vec s true (List.replicate l.toNat zs))).ctx (w.alloc (.cells cs e)) (upd β id ⟨some ⟨w.heap.size,0,none⟩,l.toNat⟩) (upd φ id [w.heap.size])).ob id=_ from hob]
 show Value.slice _ _ _=Value.slice (upd β id _ id).base _ (upd β id _ id).cap
 rw [upd_same,List.length_replicate]
end
end Go.Abs
