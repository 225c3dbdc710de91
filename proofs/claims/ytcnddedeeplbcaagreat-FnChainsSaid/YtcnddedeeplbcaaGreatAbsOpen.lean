/- A slice inside an owned vector is lent to an object of its own, and given back. -/
import Derived.Test.YtcnddedeeplbcaaGreatAbsPart
namespace Go.Abs
set_option linter.unusedVariables false

theorem flatten_get {rows:List (List D)} {sz:Nat} (h:∀ r ∈ rows,r.length=sz) {i j:Nat} (hi:i < rows.length) (hj:j < sz):rows.flatten[i * sz + j]?=some ((rows.getD i []).getD j default):=by
 induction rows generalizing i with
 | nil=>simp at hi
 | cons r rows ih =>
  have hr:r.length=sz:=h r (by simp)
  cases i with
  | zero =>
   simp only [Nat.zero_mul,Nat.zero_add,List.flatten_cons,List.getD_cons_zero]
   rw [List.getElem?_append_left (by omega),List.getD_eq_getElem?_getD,List.getElem?_eq_getElem (by omega)]
   rfl
  | succ i =>
   simp only [List.flatten_cons,List.getD_cons_succ]
   rw [List.getElem?_append_right (by rw [hr,Nat.add_mul];omega),show (i + 1) * sz + j - r.length=i * sz + j by rw [hr,Nat.add_mul];omega];exact ih (fun r hr=>h r (by simp [hr])) (by simpa using hi)

theorem flatten_set {rows:List (List D)} {sz:Nat} (h:∀ r ∈ rows,r.length=sz) {i j:Nat} (hi:i < rows.length) (hj:j < sz) (d:D):rows.flatten.set (i * sz + j) d=(rows.set i ((rows.getD i []).set j d)).flatten:=by
 induction rows generalizing i with
 | nil=>simp at hi
 | cons r rows ih =>
  have hr:r.length=sz:=h r (by simp)
  cases i with
  | zero =>
   simp only [Nat.zero_mul,Nat.zero_add,List.flatten_cons,List.getD_cons_zero,List.set_cons_zero]
   rw [List.set_append_left _ _ (by omega)]
  | succ i =>
   simp only [List.flatten_cons,List.getD_cons_succ,List.set_cons_succ]
   rw [List.set_append_right _ _ (by rw [hr,Nat.add_mul];omega),show (i + 1) * sz + j - r.length=i * sz + j by rw [hr,Nat.add_mul];omega]
   rw [ih (fun r hr=>h r (by simp [hr])) (by simpa using hi)]

abbrev lent (sz:Nat) (rs:List (List D)):AObj:=.vec sz true rs

def openSt (st:St) (k i j sz:Nat) (rows:List (List D)) (s2:Nat) (rs:List (List D)) (v:Value):St :=
 ((st.setObj k (.vec sz true (rows.set i ((rows.getD i []).set j (.hdr v))))).addObj (lent s2 rs)).addObj (.pin st.next v)

section
variable {P:Program} {B:Base} {N:Nat} {st st':St} {β:Nat -> Info} {φ:Nat -> List Nat} {a:Act} {w:World}

theorem set_rows {rows:List (List D)} {sz:Nat} (h:∀ r ∈ rows,r.length=sz) {i j:Nat} (d:D):∀ r ∈ rows.set i ((rows.getD i []).set j d),r.length=sz \/ i >= rows.length:=by
 intro r hr
 by_cases hi:i < rows.length
 ·left
  rcases List.mem_or_eq_of_mem_set hr with h1 | h1
  ·exact h r h1
  ·rw [h1,List.length_set];exact h _ (by simp [List.getD,List.getElem?_eq_getElem hi])
 ·exact .inr (by omega)

theorem own_cell (h:SR B N st β φ a w) {k sz:Nat} {rows:List (List D)} (e:st.obj k=.vec sz true rows) {i j:Nat} (hi:i < rows.length) (hj:j < sz) :
  ∃ b T S E vs v S1 S2 S3,(β k).base=some ⟨b,0,none⟩ /\ w.heap[b]?=some (.cells vs T (0,0)) /\ Room w vs (rows.length * sz) ((β k).cap * sz) /\ φ k=b :: E /\ S.Nodup /\ (∀ x ∈ S,x ∈ E) /\ rows.length <= (β k).cap /\
   (∀ r ∈ rows,r.length=sz) /\ w.cell? ⟨b,i * sz + j,none⟩=some v /\ S=S1 ++ S2 ++ S3 /\ Own w ((rows.getD i []).getD j default) v S2 /\
   ∀ d' S',Own w d' v S' -> OwnL w (rows.set i ((rows.getD i []).set j d')).flatten (vs.toList.take (rows.length * sz)) (S1 ++ S' ++ S3):=by
 have ho:=h.objs k
 unfold ObjRel at ho
 rw [show (st.ctx w β φ).ob k=_ from e] at ho
 obtain ⟨hsz,hcap,ho⟩:=ho
 rcases ho with ⟨_,h0⟩ | ⟨b,T,S,E,vs,hb,hheap,hvs,hrep,hφ,hn,hsub,hown⟩
 ·have h0':(β k).cap=0:=h0
  have:rows.length <= (β k).cap:=hcap
  omega
 ·obtain ⟨v,S1,S2,S3,g1,g2,g3,g4⟩:=OwnL.get hown (flatten_get hsz hi hj)
  refine ⟨b,T,S,E,vs,v,S1,S2,S3,hb,hheap,hvs,hφ,hn,hsub,hcap,hsz,?_,g2,g3,fun d' S' h'=>?_⟩
  ·have hheap':w.heap[b]?=some (.cells vs T (0,0)):=hheap
   refine (cell_of_heap hheap').trans ?_
   rw [<- Array.getElem?_toList]
   rw [List.getElem?_take] at g1
   split at g1
   ·exact g1
   ·cases g1
  ·have:=g4 d' S' h'
   rwa [flatten_set hsz hi hj] at this

theorem SR.openRow (h:SR B N st β φ a w) {k sz:Nat} {rows:List (List D)} (e:st.obj k=.vec sz true rows) {i j:Nat} (hi:i < rows.length) (hj:j < sz) {s2:Nat} {rs:List (List D)} (hd:(rows.getD i []).getD j default=.sl s2 rs) :
  ∃ b v,(β k).base=some ⟨b,0,none⟩ /\ w.cell? ⟨b,i * sz + j,none⟩=some v /\
   ((rs=[] /\ ∃ ad,v=.slice ad 0 0) \/ ∃ β' φ',(st.ctx w β φ).Le ((openSt st k i j sz rows s2 rs v).ctx w β' φ') /\ SR B N (openSt st k i j sz rows s2 rs v) β' φ' a w /\ AVRel ((openSt st k i j sz rows s2 rs v).ctx w β' φ') (.one (.own st.next)) v):=by
 have hkn:k < st.next:=lt_next h (by rw [e];simp)
 obtain ⟨b,T,S,E,vs,v,S1,S2,S3,hb,hheap,hvs,hφ,hn,hsub,hcap,hsz,hcell,hSe,hown,hput⟩:=own_cell h e hi hj
 rw [hd] at hown
 refine ⟨b,v,hb,hcell,?_⟩
 ·cases hown with
  | flat _ _ _ hf=>simp [D.flat] at hf
  | nil _ ad=>exact .inl ⟨rfl,ad,rfl⟩
  | sl _ _ b2 T2 cap2 cs2 S2' hh2 hsz2 hcap2 hroom2 hl2 =>
   have hv1:(Value.slice (some ⟨b2,0,none⟩) rs.length cap2).oneCell'=true:=rfl
   have hnew:=hput (.hdr (.slice (some ⟨b2,0,none⟩) rs.length cap2)) [] (.flat _ _ (.hdr _ rfl) rfl)
   have hndφ:=h.nodup k
   rw [hφ] at hndφ
   have hnd2:(S1 ++ (b2 :: S2') ++ S3).Nodup:=by rw [<- hSe];exact hn
   obtain ⟨n12,n3,d12⟩:=List.nodup_append.1 hnd2
   obtain ⟨n1,n2,d1⟩:=List.nodup_append.1 n12
   let E':=E.filter fun x=>decide (x ∉ b2 :: S2')
   let β':=upd β st.next ⟨some ⟨b2,0,none⟩,cap2⟩
   let φ':Nat -> List Nat:=fun o=>if o=k then b :: E' else if o=st.next then b2 :: S2' else φ o
   have fk:φ' k=b :: E':=if_pos rfl
   have fn:φ' st.next=b2 :: S2':=by show (if st.next=k then _ else _)=_;rw [if_neg (by omega),if_pos rfl]
   have fo:∀ o,o ≠ k -> o ≠ st.next -> φ' o=φ o:=fun o h1 h2=>by show (if o=k then _ else _)=_;rw [if_neg h1,if_neg h2]
   have bk:β' k=β k:=upd_ne _ _ (by omega)
   have bn:β' st.next=⟨some ⟨b2,0,none⟩,cap2⟩:=upd_same ..
   have ok:(openSt st k i j sz rows s2 rs (.slice (some ⟨b2,0,none⟩) rs.length cap2)).obj k=.vec sz true (rows.set i ((rows.getD i []).set j (.hdr (.slice (some ⟨b2,0,none⟩) rs.length cap2)))):=by
    unfold openSt
    rw [St.obj_addObj_ne _ _ (by show k ≠ st.next + 1;omega),St.obj_addObj_ne _ _ (by show k ≠ st.next;omega),St.obj_setObj_same]
   have on:(openSt st k i j sz rows s2 rs (.slice (some ⟨b2,0,none⟩) rs.length cap2)).obj st.next=.vec s2 true rs:=by
    unfold openSt
    rw [St.obj_addObj_ne _ _ (by show st.next ≠ st.next + 1;omega)]
    exact St.obj_addObj_same (st.setObj k _) _
   have op:(openSt st k i j sz rows s2 rs (.slice (some ⟨b2,0,none⟩) rs.length cap2)).obj (st.next + 1)=.pin st.next (.slice (some ⟨b2,0,none⟩) rs.length cap2):=by
    unfold openSt
    exact St.obj_addObj_same ((st.setObj k _).addObj _) _
   have oo:∀ o,o ≠ k -> o ≠ st.next -> o ≠ st.next + 1 -> (openSt st k i j sz rows s2 rs (.slice (some ⟨b2,0,none⟩) rs.length cap2)).obj o=st.obj o:=fun o h1 h2 h3=>by
    unfold openSt
    rw [St.obj_addObj_ne _ _ (by exact h3),St.obj_addObj_ne _ _ (by exact h2),St.obj_setObj_ne _ _ h1]
   have hnx:(openSt st k i j sz rows s2 rs (.slice (some ⟨b2,0,none⟩) rs.length cap2)).next=st.next + 2:=rfl
   have hz:∀ o,st.next <= o -> φ o=[]:=fun o ho=>dead_phi h (h.dead o ho)
   have hS2E:∀ x ∈ b2 :: S2',x ∈ E:=fun x hx=>hsub x (by rw [hSe];exact List.mem_append_left _ (List.mem_append_right _ hx))
   have hpin:∀ C:Ctx,C.n=st.next + 2 -> C.ob st.next=.vec s2 true rs -> C.β st.next=⟨some ⟨b2,0,none⟩,cap2⟩ -> LeafRel C (.own st.next) (.slice (some ⟨b2,0,none⟩) rs.length cap2):=fun C c1 c2 c3=>by
    refine ⟨by omega,?_⟩
    rw [c2,c3]
   obtain ⟨le,sr⟩:=h.change (st':=openSt st k i j sz rows s2 rs (.slice (some ⟨b2,0,none⟩) rs.length cap2)) (β':=β') (φ':=φ') (w':=w) (fun o=>o=k \/ o=st.next \/ o=st.next + 1) rfl (by rw [hnx];omega)
    (fun o ho=>oo o (fun c=>ho (.inl c)) (fun c=>ho (.inr (.inl c))) (fun c=>ho (.inr (.inr c)))) (fun o ho=>upd_ne _ _ (by omega))
    (fun o ho=>fo o (fun c=>ho (.inl c)) (fun c=>ho (.inr (.inl c))))
    (fun o ho=>by rw [hnx] at ho;rw [oo o (by omega) (by omega) (by omega)];exact h.dead o (by omega))
    (fun o ho hl=>by
      rcases ho with rfl | rfl | rfl
      ·rw [ok,e];exact ⟨⟨rfl,by simp⟩,fun _=>bk⟩
      ·omega
      ·omega)
    (Frm.refl w _)
    (fun le o ho=>by
      unfold ObjRel
      rcases ho with rfl | rfl | rfl
      ·rw [show ((openSt st o i j sz rows s2 rs (.slice (some ⟨b2,0,none⟩) rs.length cap2)).ctx w β' φ').ob o=_ from ok]
       have hSS:S1 ++ [] ++ S3=S1 ++ S3:=by simp
       rw [hSS] at hnew
       refine ⟨fun r hr=>(set_rows hsz _ r hr).resolve_right (by omega),by rw [List.length_set];show rows.length <= (β' o).cap;rw [bk];exact hcap,
        .inr ⟨b,T,S1 ++ S3,E',vs,by show (β' o).base=_;rw [bk];exact hb,hheap,by rw [List.length_set];show Room w vs _ ((β' o).cap * sz);rw [bk];exact hvs,?_,fk,?_,?_,?_⟩⟩
       ·rw [List.length_set];exact hnew.rep
       ·exact List.nodup_append.2 ⟨n1,n3,fun x hx y hy=>d12 x (List.mem_append_left _ hx) y hy⟩
       ·intro x hx
        refine List.mem_filter.2 ⟨hsub x ?_,?_⟩
        ·rw [hSe]
         rcases List.mem_append.1 hx with hx | hx
         ·exact List.mem_append_left _ (List.mem_append_left _ hx)
         ·exact List.mem_append_right _ hx
        ·rw [decide_eq_true_iff]
         intro hc
         rcases List.mem_append.1 hx with hx | hx
         ·exact d1 x hx x hc rfl
         ·exact d12 x (List.mem_append_right _ hc) x hx rfl
       ·rw [List.length_set];exact hnew
      ·rw [show ((openSt st k i j sz rows s2 rs (.slice (some ⟨b2,0,none⟩) rs.length cap2)).ctx w β' φ').ob st.next=_ from on]
       refine ⟨hsz2,by show rs.length <= (β' st.next).cap;rw [bn];exact hcap2,.inr ⟨b2,T2,S2',S2',cs2,by show (β' st.next).base=_;rw [bn],hh2,by show Room w cs2 _ ((β' st.next).cap * s2);rw [bn];exact hroom2,hl2.rep,fn,?_⟩⟩
       exact ⟨(List.nodup_cons.1 n2).2,fun x hx=>hx,hl2⟩
      ·rw [show ((openSt st k i j sz rows s2 rs (.slice (some ⟨b2,0,none⟩) rs.length cap2)).ctx w β' φ').ob (st.next + 1)=_ from op]
       refine ⟨by rw [fo _ (by omega) (by omega)];exact hz _ (by omega),hpin _ rfl on bn⟩)
    (fun o ho=>by
      rcases ho with rfl | rfl | rfl
      ·rw [fk]
       exact List.nodup_cons.2 ⟨fun hc=>(List.nodup_cons.1 hndφ).1 (List.mem_filter.1 hc).1,(List.nodup_cons.1 hndφ).2.filter _⟩
      ·rw [fn];exact n2
      ·rw [fo _ (by omega) (by omega),hz _ (by omega)];exact List.nodup_nil)
    (fun o ho x hx=>by
      rcases ho with rfl | rfl | rfl
      ·rw [fk] at hx
       have hx':x ∈ φ o:=by
        rw [hφ]
        cases hx with
        | head=>exact List.mem_cons_self ..
        | tail _ hx=>exact List.mem_cons_of_mem _ (List.mem_filter.1 hx).1
       exact ⟨(h.fp o x hx').1,.inr ⟨o,.inl rfl,hx'⟩⟩
      ·rw [fn] at hx
       have hx':x ∈ φ k:=by rw [hφ];exact List.mem_cons_of_mem _ (hS2E x hx)
       exact ⟨(h.fp k x hx').1,.inr ⟨k,.inl rfl,hx'⟩⟩
      ·rw [fo _ (by omega) (by omega),hz _ (by omega)] at hx;cases hx)
    (fun o o' ho ho' hne2 x hx hx'=>by
      have key:x ∈ b :: E' -> x ∈ b2 :: S2' -> False:=fun h1 h2=>by
       cases h1 with
       | head=>exact (List.nodup_cons.1 hndφ).1 (hS2E b h2)
       | tail _ h1=>exact (of_decide_eq_true (List.mem_filter.1 h1).2) h2
      rcases ho with rfl | rfl | rfl
      ·rcases ho' with rfl | rfl | rfl
       ·exact hne2 rfl
       ·rw [fk] at hx;rw [fn] at hx';exact key hx hx'
       ·rw [fo _ (by omega) (by omega),hz _ (by omega)] at hx';cases hx'
      ·rcases ho' with rfl | rfl | rfl
       ·rw [fk] at hx';rw [fn] at hx;exact key hx' hx
       ·exact hne2 rfl
       ·rw [fo _ (by omega) (by omega),hz _ (by omega)] at hx';cases hx'
      ·rw [fo _ (by omega) (by omega),hz _ (by omega)] at hx;cases hx)
   exact .inr ⟨β',φ',le,sr,hpin _ rfl on bn⟩

theorem SR.openRow0 (h:SR B N st β φ a w) {k sz:Nat} {rows:List (List D)} (e:st.obj k=.vec sz true rows) {i j:Nat} (hi:i < rows.length) (hj:j < sz) {s2:Nat} (hd:(rows.getD i []).getD j default=.sl s2 []) :
  ∃ b v,(β k).base=some ⟨b,0,none⟩ /\ w.cell? ⟨b,i * sz + j,none⟩=some v /\ ((∃ ad,v=.slice ad 0 0) ->
   ∃ β' φ',(st.ctx w β φ).Le ((openSt st k i j sz rows s2 [] v).ctx w β' φ') /\ SR B N (openSt st k i j sz rows s2 [] v) β' φ' a w /\ AVRel ((openSt st k i j sz rows s2 [] v).ctx w β' φ') (.one (.own st.next)) v):=by
 have hkn:k < st.next:=lt_next h (by rw [e];simp)
 obtain ⟨b,T,S,E,vs,v,S1,S2,S3,hb,hheap,hvs,hφ,hn,hsub,hcap,hsz,hcell,hSe,hown,hput⟩:=own_cell h e hi hj
 rw [hd] at hown
 refine ⟨b,v,hb,hcell,?_⟩
 rintro ⟨ad,rfl⟩
 have hnew:=hput (.hdr (.slice ad 0 0)) [] (.flat _ _ (.hdr _ rfl) rfl)
 rw [show S1 ++ [] ++ S3=S1 ++ S3 by simp] at hnew
 let β':=upd β st.next ⟨ad,0⟩
 have bk:β' k=β k:=upd_ne _ _ (by omega)
 have bn:β' st.next=⟨ad,0⟩:=upd_same ..
 have ok:(openSt st k i j sz rows s2 [] (.slice ad 0 0)).obj k=.vec sz true (rows.set i ((rows.getD i []).set j (.hdr (.slice ad 0 0)))):=by
  unfold openSt
  rw [St.obj_addObj_ne _ _ (by show k ≠ st.next + 1;omega),St.obj_addObj_ne _ _ (by show k ≠ st.next;omega),St.obj_setObj_same]
 have on:(openSt st k i j sz rows s2 [] (.slice ad 0 0)).obj st.next=.vec s2 true []:=by
  unfold openSt
  rw [St.obj_addObj_ne _ _ (by show st.next ≠ st.next + 1;omega)]
  exact St.obj_addObj_same (st.setObj k _) _
 have op:(openSt st k i j sz rows s2 [] (.slice ad 0 0)).obj (st.next + 1)=.pin st.next (.slice ad 0 0):=by
  unfold openSt
  exact St.obj_addObj_same ((st.setObj k _).addObj _) _
 have oo:∀ o,o ≠ k -> o ≠ st.next -> o ≠ st.next + 1 -> (openSt st k i j sz rows s2 [] (.slice ad 0 0)).obj o=st.obj o:=fun o h1 h2 h3=>by
  unfold openSt
  rw [St.obj_addObj_ne _ _ (by exact h3),St.obj_addObj_ne _ _ (by exact h2),St.obj_setObj_ne _ _ h1]
 have hnx:(openSt st k i j sz rows s2 [] (.slice ad 0 0)).next=st.next + 2:=rfl
 have hz:∀ o,st.next <= o -> φ o=[]:=fun o ho=>dead_phi h (h.dead o ho)
 have hpin:∀ C:Ctx,C.n=st.next + 2 -> C.ob st.next=.vec s2 true [] -> C.β st.next=⟨ad,0⟩ -> LeafRel C (.own st.next) (.slice ad 0 0):=fun C c1 c2 c3=>by
  refine ⟨by omega,?_⟩
  rw [c2,c3]
  rfl
 have hn':(S1 ++ S2 ++ S3).Nodup:=by rw [<- hSe];exact hn
 obtain ⟨n12,n3,d12⟩:=List.nodup_append.1 hn'
 obtain ⟨n1,n2,d1⟩:=List.nodup_append.1 n12
 obtain ⟨le,sr⟩:=h.change (st':=openSt st k i j sz rows s2 [] (.slice ad 0 0)) (β':=β') (φ':=φ) (w':=w) (fun o=>o=k \/ o=st.next \/ o=st.next + 1) rfl (by rw [hnx];omega)
  (fun o ho=>oo o (fun c=>ho (.inl c)) (fun c=>ho (.inr (.inl c))) (fun c=>ho (.inr (.inr c)))) (fun o ho=>upd_ne _ _ (by omega))
  (fun o ho=>rfl)
  (fun o ho=>by rw [hnx] at ho;rw [oo o (by omega) (by omega) (by omega)];exact h.dead o (by omega))
  (fun o ho hl=>by
    rcases ho with rfl | rfl | rfl
    ·rw [ok,e];exact ⟨⟨rfl,by simp⟩,fun _=>bk⟩
    ·omega
    ·omega)
  (Frm.refl w _)
  (fun le o ho=>by
    unfold ObjRel
    rcases ho with rfl | rfl | rfl
    ·rw [show ((openSt st o i j sz rows s2 [] (.slice ad 0 0)).ctx w β' φ).ob o=_ from ok]
     refine ⟨fun r hr=>(set_rows hsz _ r hr).resolve_right (by omega),by rw [List.length_set];show rows.length <= (β' o).cap;rw [bk];exact hcap,
      .inr ⟨b,T,S1 ++ S3,E,vs,by show (β' o).base=_;rw [bk];exact hb,hheap,by rw [List.length_set];show Room w vs _ ((β' o).cap * sz);rw [bk];exact hvs,?_,hφ,?_,?_,?_⟩⟩
     ·rw [List.length_set];exact hnew.rep
     ·exact List.nodup_append.2 ⟨n1,n3,fun x hx y hy=>d12 x (List.mem_append_left _ hx) y hy⟩
     ·intro x hx
      refine hsub x ?_
      rw [hSe]
      rcases List.mem_append.1 hx with hx | hx
      ·exact List.mem_append_left _ (List.mem_append_left _ hx)
      ·exact List.mem_append_right _ hx
     ·rw [List.length_set];exact hnew
    ·rw [show ((openSt st k i j sz rows s2 [] (.slice ad 0 0)).ctx w β' φ).ob st.next=_ from on]
     exact ⟨by simp,Nat.zero_le _,.inl ⟨hz _ (by omega),by show (β' st.next).cap=0;rw [bn]⟩⟩
    ·rw [show ((openSt st k i j sz rows s2 [] (.slice ad 0 0)).ctx w β' φ).ob (st.next + 1)=_ from op]
     exact ⟨hz _ (by omega),hpin _ rfl on bn⟩)
  (fun o ho=>h.nodup o)
  (fun o ho x hx=>⟨(h.fp o x hx).1,.inr ⟨o,ho,hx⟩⟩)
  (fun o o' ho ho' hne2 x hx hx'=>h.disj o o' hne2 x hx hx')
 exact ⟨β',φ,le,sr,hpin _ rfl on bn⟩

theorem SR.openAny (h:SR B N st β φ a w) {k sz:Nat} {rows:List (List D)} (e:st.obj k=.vec sz true rows) {i j:Nat} (hi:i < rows.length) (hj:j < sz) {s2:Nat} {rs:List (List D)} (hd:(rows.getD i []).getD j default=.sl s2 rs) :
  ∃ b v,(β k).base=some ⟨b,0,none⟩ /\ w.cell? ⟨b,i * sz + j,none⟩=some v /\
   ∃ β' φ',(st.ctx w β φ).Le ((openSt st k i j sz rows s2 rs v).ctx w β' φ') /\ SR B N (openSt st k i j sz rows s2 rs v) β' φ' a w /\ AVRel ((openSt st k i j sz rows s2 rs v).ctx w β' φ') (.one (.own st.next)) v:=by
 obtain ⟨b,v,h1,h2,h3⟩:=h.openRow e hi hj hd
 rcases h3 with ⟨rfl,ad,hv⟩ | h3
 ·obtain ⟨b',v',g1,g2,g3⟩:=h.openRow0 e hi hj hd
  obtain rfl:b'=b:=by rw [h1] at g1;cases g1;rfl
  obtain rfl:v'=v:=by rw [h2] at g2;cases g2;rfl
  exact ⟨b',v',h1,h2,g3 ⟨ad,hv⟩⟩
 ·exact ⟨b,v,h1,h2,h3⟩

def closeSt (st:St) (k i j n p sz:Nat) (rows:List (List D)) (s2:Nat) (rs:List (List D)):St :=
 ((st.setObj n .dead).setObj p .dead).setObj k (.vec sz true (rows.set i ((rows.getD i []).set j (.sl s2 rs))))

theorem SR.closeRow (h:SR B N st β φ a w) {k n p sz:Nat} {rows:List (List D)} (e:st.obj k=.vec sz true rows) {i j:Nat} (hi:i < rows.length) (hj:j < sz) {v:Value} (hd:(rows.getD i []).getD j default=.hdr v)
  {s2:Nat} {rs:List (List D)} (en:st.obj n=.vec s2 true rs) (ep:st.obj p=.pin n v) (hkn:k ≠ n) :
  ∃ φ',(st.ctx w β φ).Le ((closeSt st k i j n p sz rows s2 rs).ctx w β φ') /\ SR B N (closeSt st k i j n p sz rows s2 rs) β φ' a w:=by
 have hkp:k ≠ p:=fun c=>by subst c;rw [e] at ep;cases ep
 have hnp:n ≠ p:=fun c=>by subst c;rw [en] at ep;cases ep
 obtain ⟨b,T,S,E,vs,v0,S1,S2,S3,hb,hheap,hvs,hφ,hn,hsub,hcap,hsz,hcell,hSe,hown,hput⟩:=own_cell h e hi hj
 rw [hd] at hown
 have hv0:v0=v /\ S2=[]:=by
  cases hown with
  | flat _ _ hr _=>cases hr;exact ⟨rfl,rfl⟩
 obtain ⟨rfl,rfl⟩:=hv0
 obtain ⟨Sn,on,nn,mn⟩:=vec_own h en
 have hpin:=h.objs p
 unfold ObjRel at hpin
 rw [show (st.ctx w β φ).ob p=_ from ep] at hpin
 obtain ⟨hφp,_,hpv⟩:=hpin
 rw [show (st.ctx w β φ).ob n=_ from en] at hpv
 have hpv':v0=.slice (β n).base rs.length (β n).cap:=hpv
 rw [<- hpv'] at on
 have hnew:=hput _ _ on
 have hS13:S=S1 ++ S3:=by rw [hSe];simp
 let φ':Nat -> List Nat:=fun o=>if o=k then φ k ++ Sn else if o=n then [] else φ o
 have fk:φ' k=φ k ++ Sn:=if_pos rfl
 have fn:φ' n=[]:=by show (if n=k then _ else _)=_;rw [if_neg (fun c=>hkn c.symm),if_pos rfl]
 have fo:∀ o,o ≠ k -> o ≠ n -> φ' o=φ o:=fun o h1 h2=>by show (if o=k then _ else _)=_;rw [if_neg h1,if_neg h2]
 have ok:(closeSt st k i j n p sz rows s2 rs).obj k=.vec sz true (rows.set i ((rows.getD i []).set j (.sl s2 rs))):=St.obj_setObj_same _ _ _
 have onn:(closeSt st k i j n p sz rows s2 rs).obj n=.dead:=by
  unfold closeSt
  rw [St.obj_setObj_ne _ _ (fun c=>hkn c.symm),St.obj_setObj_ne _ _ hnp,St.obj_setObj_same]
 have opp:(closeSt st k i j n p sz rows s2 rs).obj p=.dead:=by
  unfold closeSt
  rw [St.obj_setObj_ne _ _ (fun c=>hkp c.symm),St.obj_setObj_same]
 have oo:∀ o,o ≠ k -> o ≠ n -> o ≠ p -> (closeSt st k i j n p sz rows s2 rs).obj o=st.obj o:=fun o h1 h2 h3=>by
  unfold closeSt
  rw [St.obj_setObj_ne _ _ h1,St.obj_setObj_ne _ _ h3,St.obj_setObj_ne _ _ h2]
 have hdis:∀ x ∈ φ k,x ∉ Sn:=fun x hx hx'=>h.disj k n hkn x hx (mn x hx')
 have hklt:k < st.next:=lt_next h (by rw [e];simp)
 have hnlt:n < st.next:=lt_next h (by rw [en];simp)
 have hplt:p < st.next:=lt_next h (by rw [ep];simp)
 have hndk:=h.nodup k
 obtain ⟨le,sr⟩:=h.change (st':=closeSt st k i j n p sz rows s2 rs) (β':=β) (φ':=φ') (w':=w) (fun o=>o=k \/ o=n \/ o=p) rfl (Nat.le_refl _)
  (fun o ho=>oo o (fun c=>ho (.inl c)) (fun c=>ho (.inr (.inl c))) (fun c=>ho (.inr (.inr c)))) (fun _ _=>rfl)
  (fun o ho=>fo o (fun c=>ho (.inl c)) (fun c=>ho (.inr (.inl c))))
  (fun o ho=>by have ho':st.next <= o:=ho;rw [oo o (by omega) (by omega) (by omega)];exact h.dead o ho')
  (fun o ho hl=>by
    rcases ho with rfl | rfl | rfl
    ·rw [ok,e];exact ⟨⟨rfl,by simp⟩,fun _=>rfl⟩
    ·rw [onn,en];exact ⟨trivial,fun c=>absurd rfl c⟩
    ·rw [opp,ep];exact ⟨trivial,fun c=>absurd rfl c⟩)
  (Frm.refl w _)
  (fun le o ho=>by
    unfold ObjRel
    rcases ho with rfl | rfl | rfl
    ·rw [show ((closeSt st o i j n p sz rows s2 rs).ctx w β φ').ob o=_ from ok]
     refine ⟨fun r hr=>(set_rows hsz _ r hr).resolve_right (by omega),by rw [List.length_set];exact hcap,.inr ⟨b,T,S1 ++ Sn ++ S3,E ++ Sn,vs,hb,hheap,by rw [List.length_set];exact hvs,?_,by rw [fk,hφ];rfl,?_,?_,?_⟩⟩
     ·rw [List.length_set];exact hnew.rep
     ·rw [hS13] at hn
      obtain ⟨n1,n3,d⟩:=List.nodup_append.1 hn
      have hin:∀ x ∈ S1 ++ S3,x ∈ φ o:=fun x hx=>by rw [hφ];exact List.mem_cons_of_mem _ (hsub x (by rw [hS13];exact hx))
      refine List.nodup_append.2 ⟨List.nodup_append.2 ⟨n1,nn,fun x hx y hy hxy=>hdis x (hin x (List.mem_append_left _ hx)) (hxy ▸ hy)⟩,n3,fun x hx y hy hxy=>?_⟩
      rcases List.mem_append.1 hx with hx | hx
      ·exact d x hx y hy hxy
      ·exact hdis y (hin y (List.mem_append_right _ hy)) (hxy ▸ hx)
     ·intro x hx
      rcases List.mem_append.1 hx with hx | hx
      ·rcases List.mem_append.1 hx with hx | hx
       ·exact List.mem_append_left _ (hsub x (by rw [hS13];exact List.mem_append_left _ hx))
       ·exact List.mem_append_right _ hx
      ·exact List.mem_append_left _ (hsub x (by rw [hS13];exact List.mem_append_right _ hx))
     ·rw [List.length_set];exact hnew
    ·rw [show ((closeSt st k i j o p sz rows s2 rs).ctx w β φ').ob o=_ from onn];exact fn
    ·rw [show ((closeSt st k i j n o sz rows s2 rs).ctx w β φ').ob o=_ from opp]
     show φ' o=[]
     rw [fo o (fun c=>hkp c.symm) (fun c=>hnp c.symm)];exact hφp)
  (fun o ho=>by
    rcases ho with rfl | rfl | rfl
    ·rw [fk];exact List.nodup_append.2 ⟨hndk,nn,fun x hx y hy hxy=>hdis x hx (hxy ▸ hy)⟩
    ·rw [fn];exact List.nodup_nil
    ·rw [fo o (fun c=>hkp c.symm) (fun c=>hnp c.symm)];exact h.nodup o)
  (fun o ho x hx=>by
    rcases ho with rfl | rfl | rfl
    ·rw [fk] at hx
     rcases List.mem_append.1 hx with hx | hx
     ·exact ⟨(h.fp o x hx).1,.inr ⟨o,.inl rfl,hx⟩⟩
     ·exact ⟨(h.fp n x (mn x hx)).1,.inr ⟨n,.inr (.inl rfl),mn x hx⟩⟩
    ·rw [fn] at hx;cases hx
    ·rw [fo o (fun c=>hkp c.symm) (fun c=>hnp c.symm)] at hx;exact ⟨(h.fp o x hx).1,.inr ⟨o,.inr (.inr rfl),hx⟩⟩)
  (fun o o' ho ho' hne2 x hx hx'=>by
    rcases ho with rfl | rfl | rfl
    ·rcases ho' with rfl | rfl | rfl
     ·exact hne2 rfl
     ·rw [fn] at hx';cases hx'
     ·rw [fo o' (fun c=>hkp c.symm) (fun c=>hnp c.symm),show φ o'=[] from hφp] at hx';cases hx'
    ·rw [fn] at hx;cases hx
    ·rw [fo o (fun c=>hkp c.symm) (fun c=>hnp c.symm),show φ o=[] from hφp] at hx;cases hx)
 exact ⟨φ',le,sr⟩

end
end Go.Abs
